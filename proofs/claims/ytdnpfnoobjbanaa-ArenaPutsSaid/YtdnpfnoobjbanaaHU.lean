/- ArenaLeast: its walk. -/
import Derived.Test.YtdnpfnoobjbanaaHQ
import Derived.Test.YtdnpfnoobjbanaaHT
set_option linter.unusedVariables false
set_option linter.unusedSimpArgs false
namespace Go.Proofs.Ytdnpfnoobjbanaa.Hand
open Go.RowKit Go.Proofs.Ytdnpfnoobjbanaa.PArenaPlays Go.Proofs.YtdnpfnoobjbanaaW.PrintWords Go.Proofs.YtdnpfnoobjbanaaW.PrintLast Go.Proofs.YtdnpfnoobjbanaaW.PrintMore
def bOf (b : Bool) : S77 := if b then ⟨1, 16, ⟨#[]⟩⟩ else ⟨2, 0, ⟨#[]⟩⟩
def bsOf (lv : List Bool) : List S77 := lv.map bOf
theorem bsOf_len (lv : List Bool) : (bsOf lv).length = lv.length := by simp [bsOf]
theorem bsOf_bk (lv : List Bool) (k : Nat) (b : Bool) (h : lv[k]? = some b) : bk (bsOf lv) k = bOf b := by simp [bk, bsOf, h]
theorem bsOf_good (lv : List Bool) (h : lv.length ≤ 4096) : Good (bsOf lv) := by
  refine ⟨by rw [bsOf_len]; exact h, fun b hb => ?_⟩
  obtain ⟨x, _, rfl⟩ := List.mem_map.1 hb
  cases x <;> simp [bOf]
theorem bsOf_sum : ∀ lv : List Bool, 0 ≤ sumOf (bsOf lv) ∧ sumOf (bsOf lv) ≤ 16 * lv.length
  | [] => by simp [bsOf, sumOf]
  | b :: r => by
    have := bsOf_sum r
    simp only [bsOf, List.map_cons, sumOf, List.length_cons] at *
    cases b <;> simp [bOf] <;> omega
theorem bsOf_set (lv : List Bool) (k : Nat) (b : Bool) : bsOf (lv.set k b) = (bsOf lv).set k (bOf b) := by simp [bsOf]
theorem bsOf_true (n : Nat) : bsOf (List.replicate n true) = List.replicate n ⟨1, 16, ⟨#[]⟩⟩ := by simp [bsOf, bOf]
/-- The least that is free from d on. -/
def lfrom (lv : List Bool) (d : Nat) : Nat := d + (lv.drop d).findIdx (fun b => !b)
theorem lfrom_end (lv : List Bool) : lfrom lv lv.length = lv.length := by simp [lfrom]
theorem lfrom_step (lv : List Bool) (d : Nat) (b : Bool) (h : lv[d]? = some b) : lfrom lv d = if b then lfrom lv (d + 1) else d := by
  obtain ⟨hd, e⟩ := List.getElem?_eq_some_iff.1 h
  unfold lfrom
  rw [List.drop_eq_getElem_cons hd, e, List.findIdx_cons]
  cases b <;> simp
  omega
theorem lfrom_le (lv : List Bool) (d : Nat) (h : d ≤ lv.length) : lfrom lv d ≤ lv.length := by
  unfold lfrom
  have := List.findIdx_le_length (xs := lv.drop d) (p := fun b => !b)
  simp at this
  omega
theorem least_alloc (lv : List Bool) (s : ByteArray) (hs : s.size ≤ 16) (h : lv.length ≤ 30) : allocE 65536 (bsOf lv) s.size = ((lfrom lv 0 : Int), (if lfrom lv 0 < lv.length then 2 else 1), 0) := by
  have hS := bsOf_sum lv
  have hr : rnd (s.size : Int) = 16 := by unfold rnd; rw [if_neg (by omega), if_pos (by omega)]
  unfold allocE
  rw [if_neg (by rw [fit_yes _ (by omega) (by omega)]; simp), if_neg (by rw [hr]; omega)]
  have key : ∀ m, m ≤ lv.length → (∀ j, j < m → lv[j]? = some true) → (m < lv.length → lv[m]? = some false) → lfrom lv 0 = m := by
    intro m hm h1 h2
    unfold lfrom
    rw [List.drop_zero, Nat.zero_add]
    by_cases hml : m < lv.length
    · rw [List.findIdx_eq hml]
      have e := h2 hml
      rw [List.getElem?_eq_getElem hml] at e
      injection e with e
      refine ⟨by rw [e]; rfl, fun j hj => ?_⟩
      have e := h1 j hj
      rw [List.getElem?_eq_getElem (by omega)] at e
      injection e with e
      rw [e]; rfl
    · obtain rfl : m = lv.length := by omega
      rw [List.findIdx_eq_length]
      intro x hx
      obtain ⟨j, hj, rfl⟩ := List.mem_iff_getElem.1 hx
      have e := h1 j hj
      rw [List.getElem?_eq_getElem hj] at e
      injection e with e
      rw [e]; rfl
  have tr : ∀ j, j < lv.length → 0 < (bk (bsOf lv) j).f1 → lv[j]? = some true := by
    intro j hj hp
    obtain ⟨b, hb⟩ : ∃ b, lv[j]? = some b := ⟨_, List.getElem?_eq_getElem hj⟩
    rw [bsOf_bk lv j b hb] at hp
    cases b
    · simp [bOf] at hp
    · exact hb
  cases hf : freeOf (bsOf lv) with
  | nil =>
    have h0 := free_nil hf
    rw [bsOf_len] at h0
    have e := key lv.length (Nat.le_refl _) (fun j hj => tr j hj (h0 j hj)) (fun h => by omega)
    simp only [bsOf_len]
    rw [if_neg (by omega), e, if_neg (by omega)]
  | cons i r =>
    obtain ⟨n, rfl, hn, hz, hlo, _⟩ := free_head hf
    rw [bsOf_len] at hn
    obtain ⟨b, hb⟩ : ∃ b, lv[n]? = some b := ⟨_, List.getElem?_eq_getElem hn⟩
    have hbf : b = false := by
      rw [bsOf_bk lv n b hb] at hz
      cases b
      · rfl
      · simp [bOf] at hz
    subst hbf
    have e := key n (by omega) (fun j hj => tr j (by omega) (hlo j hj)) (fun _ => hb)
    simp only [Int.toNat_natCast]
    rw [e, if_pos hn, bsOf_bk lv n false hb]
    rfl
theorem least_free {W : World} {g : Nat} {cap lim : Int} (lv : List Bool) (h : AX W g cap lim (bsOf lv)) (hl : lv.length ≤ 4096) (k : Nat) (b : Bool) (hb : lv[k]? = some b) :
    Calls Try.prog 13 #[.pointer (some ⟨g, 0, none⟩), .agg #[.int .u32 (k : Int), .int .u32 1]] W fun e w' => e = .returned (.bool b) ∧ AX w' g cap lim (bsOf (lv.set k false)) ∧ Fr g W w' := by
  obtain ⟨hk, he⟩ := List.getElem?_eq_some_iff.1 hb
  have e1 : livesB (bsOf lv) k 1 = b := by
    unfold livesB
    rw [bsOf_bk lv k b hb, bsOf_len]
    cases b <;> simp [bOf, hk]
  have e2 : freeB (bsOf lv) k 1 = bsOf (lv.set k false) := by
    unfold freeB
    rw [e1]
    cases b
    · rw [if_neg (by simp)]
      congr 1
      rw [← he, List.set_getElem_self]
    · rw [if_pos rfl, bsOf_set]
      rfl
  refine (x_free h (bsOf_good lv hl) k 1 (by omega)).mono ?_
  rintro e w' ⟨rfl, hA, hF⟩
  rw [e1]
  rw [e2] at hA
  exact ⟨rfl, hA, hF⟩
theorem least_new {W : World} {g : Nat} {cap lim : Int} (i : Nat) (h : AX W g cap lim (bsOf (List.replicate i true))) (hi : i < 4096) (hl : 16 * (i : Int) + 16 ≤ lim) :
    Calls Try.prog 12 #[.pointer (some ⟨g, 0, none⟩), .string ⟨#[]⟩] W fun e w' => e = .returned (.tuple #[.agg #[.int .u32 (i : Int), .int .u32 1], .int .i64 0]) ∧ AX w' g cap lim (bsOf (List.replicate (i + 1) true)) ∧ Fr g W w' := by
  have hf : freeOf (bsOf (List.replicate i true)) = [] := by
    cases hq : freeOf (bsOf (List.replicate i true)) with
    | nil => rfl
    | cons x r =>
      obtain ⟨n, rfl, hn, hz, _⟩ := free_head hq
      rw [bsOf_len, List.length_replicate] at hn
      rw [bsOf_bk _ n true (by simp [hn])] at hz
      simp [bOf] at hz
  have hS := bsOf_sum (List.replicate i true)
  rw [List.length_replicate] at hS
  have hr : rnd ((⟨#[]⟩ : ByteArray).size : Int) = 16 := by decide
  have hft : fit ((⟨#[]⟩ : ByteArray).size : Int) = true := by decide
  have eE : allocE lim (bsOf (List.replicate i true)) (⟨#[]⟩ : ByteArray).size = ((i : Int), 1, 0) := by
    unfold allocE
    rw [hft, hr, hf, if_neg (by simp), if_neg (by omega)]
    simp only [bsOf_len, List.length_replicate]
    rw [if_neg (by omega)]
  have eB : allocB lim (bsOf (List.replicate i true)) ⟨#[]⟩ = bsOf (List.replicate (i + 1) true) := by
    unfold allocB
    rw [hft, hr, hf, if_neg (by simp), if_neg (by omega)]
    simp only [bsOf_len, List.length_replicate]
    rw [if_neg (by omega), List.replicate_succ']
    simp [bsOf, bOf]
  refine (x_alloc h (bsOf_good _ (by simp; omega)) ⟨#[]⟩).mono ?_
  rintro e w' ⟨rfl, hA, hF⟩
  rw [eE]
  rw [eB] at hA
  exact ⟨rfl, hA, hF⟩
theorem HRow.set {W : World} {base b q : Nat} {v : Value} {xs : List (Int × Int)} {cs : Array Value} (h : HRow W base v xs) (hb : W.heap[b]? = some (.cells cs q (0, 0))) (hq : q ≠ 28) (j : Nat) (u : Value) : HRow (W.setCell ⟨b, j, none⟩ u) base v xs := by
  refine Kd.R_set h hb ?_ j u
  intro q' hq' e
  subst e
  exact hq (by simpa [kH, Kd.pair, Kd.int, Kd.scalar] using hq')
def lvA (n i : Nat) : List Bool := List.replicate i true ++ List.replicate (n - i) false
theorem lvA_set (n i : Nat) (h : i < n) : (lvA n i).set i true = lvA n (i + 1) := by
  unfold lvA
  rw [List.set_append_right _ _ (by simp), List.length_replicate, Nat.sub_self]
  obtain ⟨d, hd⟩ : ∃ d, n - i = d + 1 := ⟨n - i - 1, by omega⟩
  rw [hd, show n - (i + 1) = d by omega, List.replicate_succ, List.set_cons_zero, List.replicate_succ']
  simp
theorem lvA_len (n i : Nat) (h : i ≤ n) : (lvA n i).length = n := by simp [lvA]; omega
theorem lvA_end (n : Nat) : lvA n n = List.replicate n true := by simp [lvA]
theorem lvA_at (n i : Nat) (h : i < n) : (lvA n i)[i]? = some false := by
  unfold lvA
  rw [List.getElem?_append_right (by simp), List.length_replicate, Nat.sub_self, List.getElem?_replicate, if_pos (by omega)]
theorem made_lv (n : Nat) : madeCells #[.bool false] n = ((lvA n 0).map Value.bool).toArray := by
  apply Array.ext
  · simp [size_madeCells, lvA]
  · intro i h1 h2
    simp [madeCells, lvA, Nat.mod_one]
/-- The row of who lives. -/
def LRow (W : World) (b : Nat) (lv : List Bool) : Prop := W.heap[b]? = some (.cells (lv.map Value.bool).toArray 4 (0, 0))
theorem LRow.put {W : World} {b : Nat} {lv : List Bool} (h : LRow W b lv) (k : Nat) (x : Bool) : LRow (W.setCell ⟨b, k, none⟩ (.bool x)) b (lv.set k x) := by
  refine blk_put h k (.bool x) ?_
  simp [List.map_set]
theorem LRow.at_ {W : World} {b : Nat} {lv : List Bool} (h : LRow W b lv) (k : Nat) (x : Bool) (hk : lv[k]? = some x) : W.cell? ⟨b, k, none⟩ = some (.bool x) ∧ W.frozen? ⟨b, k, none⟩ = false ∧ b < W.heap.size := by
  refine ⟨?_, blk_frozen h k, blk_lt h⟩
  rw [blk_cell h k]
  simp [hk]
theorem least_x {W : World} {g : Nat} (lv : List Bool) (h : AX W g 65536 65536 (bsOf lv)) (hl : lv.length ≤ 30) (L gx : Int) (hL : (lfrom lv 0 : Int) = L) (hg : (if lfrom lv 0 < lv.length then (2 : Int) else 1) = gx) :
    Calls Try.prog 12 #[.pointer (some ⟨g, 0, none⟩), .string ⟨#[120]⟩] W fun e w' => e = .returned (.tuple #[.agg #[.int .u32 L, .int .u32 gx], .int .i64 0]) ∧ AX w' g 65536 65536 (allocB 65536 (bsOf lv) ⟨#[120]⟩) ∧ Fr g W w' := by
  refine (x_alloc h (bsOf_good lv (by omega)) ⟨#[120]⟩).mono ?_
  rintro e w' ⟨rfl, hA, hF⟩
  rw [least_alloc lv ⟨#[120]⟩ (by decide) hl, hL, hg]
  exact ⟨rfl, hA, hF⟩
set_option maxHeartbeats 2000000 in
set_option maxRecDepth 100000 in
theorem least_none (a0 : Int) (m : Nat) (c : Nat) (w : World) (h0 : 0 ≤ a0) (h1 : a0 ≤ 255) (hm : 1 + a0 % 30 = (m : Int)) (hm1 : 1 ≤ m) (hm2 : m ≤ 30)  : Calls Try.prog 6 #[.int .u8 a0, .slice none 0 c] w fun e w' => e = .returned (.bool true) ∧ Below w.heap.size w w' := by
  have HB := Aside0.mk (Below.refl w.heap.size w)
  have HL := Aside0.mk (Below.refl w.heap.size w)
  have hmk := print_make_of (P := Try.prog) 47 4 (.bool false) 1 Try.underlying47 (by kernel_rfl) rfl (by decide) m (by omega)
  have hmd := made_lv m
  go_enter Try.func6, Try.ntmps6
  go_wp2_with (first | (go_at_call 10; (with_reducible refine (examples_c _).mono ?_); rintro e w1 ⟨rfl, hb⟩; have n0_ := Aside0.mk (below_step (by repeat (first | (with_reducible first | exact HB.out | apply below_alloc | apply pw_below_drewN | apply below_drew1) | exact HB.out)) hb); clear HB; have HB := n0_; clear n0_; have hs_ := below_step (by repeat (first | (with_reducible first | exact HL.out | apply below_alloc | apply pw_below_drewN | apply below_drew1) | exact HL.out)) hb; have hg := below_size HB.out; clear HL hs_ hb; have HL := Aside0.mk (Below.refl w1.heap.size w1)) | (go_at_call 11; (with_reducible refine (x_new 65536 _ (by decide) (by decide)).mono ?_); rintro e w2 ⟨rfl, hA, hb⟩; have HA := Aside0.mk hA; clear hA; have n0_ := Aside0.mk (below_step (by repeat (first | (with_reducible first | exact HB.out | apply below_alloc | apply pw_below_drewN | apply below_drew1) | exact HB.out)) hb); clear HB; have HB := n0_; clear n0_; have hs_ := below_step (by repeat (first | (with_reducible first | exact HL.out | apply below_alloc | apply pw_below_drewN | apply below_drew1) | exact HL.out)) hb; have hw2 := below_size HB.out; clear HL hs_ hb; have HL := Aside0.mk (Below.refl w2.heap.size w2)))
  go_loopw [8, 10] (fun v8 v10 wr => ∃ (i : Nat) (hv : Value), hv = v8 ∧ v10 = .int .i64 i ∧ i ≤ m ∧ Aside0 (Below w.heap.size w wr) ∧ Aside0 (AX wr w1.heap.size 65536 65536 (bsOf (List.replicate i true))) ∧ Aside0 (HRow wr w.heap.size hv (hxs i)) ∧ Aside0 (LRow wr w2.heap.size (lvA m i))) (fun _ v _ => m - (intOf v).toNat)
  case atStart => exact ⟨0, _, rfl, rfl, by omega, ⟨(by repeat (first | (with_reducible first | exact HB.out | apply below_alloc | apply pw_below_drewN | apply below_drew1) | exact HB.out))⟩, ⟨HA.out.below (by repeat (first | (with_reducible first | exact HL.out | apply below_alloc | apply pw_below_drewN | apply below_drew1) | exact HL.out))⟩, ⟨HRow.none_ _ _⟩, ⟨show LRow _ _ _ from (by repeat (first | (with_reducible refine blk_drewN ?_ _) | (with_reducible refine blk_drew ?_) | exact blk_new' (by first | rfl | simp) | (with_reducible refine blk_alloc ?_ _)))⟩⟩
  case round =>
    clear HB HA HL
    obtain ⟨i, hv, rfl, rfl, hi, HB, HA, HS, LB⟩ := hrel
    have HL := Aside0.mk (Below.refl wr.heap.size wr)
    by_cases hlt : i < m
    · go_wp2_with (first | (go_at_call 12; (with_reducible refine (least_new i (HA.out.below (by repeat (first | (with_reducible first | exact HL.out | apply below_alloc | apply pw_below_drewN | apply below_drew1) | exact HL.out))) (by omega) (by omega)).mono ?_); rintro e w6 ⟨rfl, hA, hF⟩; have hF := Fr.trans (Fr.of_below (by repeat (first | (with_reducible first | exact HL.out | apply below_alloc | apply pw_below_drewN | apply below_drew1) | exact HL.out))) hF; have n0_ := Aside0.mk (Fr.below hF HB.out hg (below_size HB.out)); clear HB; have HB := n0_; clear n0_; have n_ := Aside0.mk (HRow.fr HS.out hF); clear HS; have HS := n_; clear n_; have n_ := Aside0.mk ((show LRow _ w2.heap.size _ from hF.blk LB.out (by unfold AT; decide))); clear LB; have LB := n_; clear n_; clear HA; have HA := Aside0.mk (show AX w6 w1.heap.size 65536 65536 (bsOf (List.replicate (i + 1) true)) from hA); clear hA HL hF; have HL := Aside0.mk (Below.refl w6.heap.size w6)) | ((with_reducible refine gate_builtin (b := .append) (xs := #[.tmp 43, .tmp 45]) rfl ?_); at_builtin; refine h_append (w0 := w) w.heap.size rfl (.tmp 43) (.tmp 45) rfl hv (hxs i) (i : Int) 1 rfl rfl (by simp) (HRow.below HS.out (by repeat (first | (with_reducible first | exact HL.out | apply below_alloc | apply pw_below_drewN | apply below_drew1) | exact HL.out))) (by repeat (first | (with_reducible first | exact HB.out | apply below_alloc | apply pw_below_drewN | apply below_drew1) | exact HB.out)) (below_size (by repeat (first | (with_reducible first | exact HB.out | apply below_alloc | apply pw_below_drewN | apply below_drew1) | exact HB.out))) (by rw [hxs_len]; omega) ?_; intro v7 w7 r1 b1 g1; have n_ := Aside0.mk (AX.over (HA.out.below (by repeat (first | (with_reducible first | exact HL.out | apply below_alloc | apply pw_below_drewN | apply below_drew1) | exact HL.out))) (HRow.typed (HRow.below HS.out (by repeat (first | (with_reducible first | exact HL.out | apply below_alloc | apply pw_below_drewN | apply below_drew1) | exact HL.out)))) (by unfold AT; decide) g1); have nl_ := Aside0.mk (show LRow w7 w2.heap.size (lvA m i) from blk_grown (blk_below LB.out (by repeat (first | (with_reducible first | exact HL.out | apply below_alloc | apply pw_below_drewN | apply below_drew1) | exact HL.out))) g1 (Kd.R_ne (HRow.below HS.out (by repeat (first | (with_reducible first | exact HL.out | apply below_alloc | apply pw_below_drewN | apply below_drew1) | exact HL.out))) (blk_below LB.out (by repeat (first | (with_reducible first | exact HL.out | apply below_alloc | apply pw_below_drewN | apply below_drew1) | exact HL.out))) (by decide))); clear HA HS HB LB HL; have HA := n_; have LB := nl_; have HB := Aside0.mk b1; have HS := Aside0.mk (show HRow w7 w.heap.size v7 (hxs (i + 1)) from (by rw [hxs_succ]; exact r1)); have ⟨qL, fL, lL⟩ := LRow.at_ LB.out i false (lvA_at m i hlt); clear n_ nl_; clear r1 b1 g1; have HL := Aside0.mk (Below.refl w7.heap.size w7)))
      all_goals go_roundw
      all_goals (try (case rel => exact ⟨i + 1, _, rfl, by go_num, by omega, ⟨HB.out.setCell (p := ⟨w2.heap.size, i, none⟩) (hw2) _⟩, ⟨HA.out.other LB.out (by unfold AT; decide) i _⟩, ⟨HRow.set HS.out LB.out (by decide) i _⟩, ⟨by have := LRow.put LB.out i true; rwa [lvA_set m i hlt] at this⟩⟩))
      all_goals (try (case measure => (simp [intOf] <;> omega)))
    · obtain rfl : m = i := by omega
      clear hlt hi
      obtain ⟨gb, cb, rfl⟩ := HRow.addr HS.out (by rw [hxs_len]; omega)
      rw [hxs_len] at *
      have n_ := Aside0.mk (show LRow wr w2.heap.size (List.replicate m true) from (by rw [← lvA_end]; exact LB.out))
      clear LB
      have LB := n_
      clear n_
      go_wp2
      go_loopw [13] (fun v13 wr => ∃ (j : Nat) (lv : List Bool), v13 = .int .i64 j ∧ lv.length = m ∧ Aside0 (Below w.heap.size w wr) ∧ Aside0 (AX wr w1.heap.size 65536 65536 (bsOf lv)) ∧ Aside0 (HRow wr w.heap.size (.slice (some ⟨gb, 0, none⟩) m cb) (hxs m)) ∧ Aside0 (LRow wr w2.heap.size lv)) (fun v _ => 20 - (intOf v).toNat)
      case atStart => exact ⟨0, List.replicate m true, rfl, List.length_replicate, ⟨(by repeat (first | (with_reducible first | exact HB.out | apply below_alloc | apply pw_below_drewN | apply below_drew1) | exact HB.out))⟩, ⟨HA.out.below (by repeat (first | (with_reducible first | exact HL.out | apply below_alloc | apply pw_below_drewN | apply below_drew1) | exact HL.out))⟩, ⟨HRow.below HS.out (by repeat (first | (with_reducible first | exact HL.out | apply below_alloc | apply pw_below_drewN | apply below_drew1) | exact HL.out))⟩, ⟨by first | exact LB.out | exact blk_drewN LB.out _⟩⟩
      case round =>
        clear HB HA HL HS LB
        obtain ⟨j, lv, rfl, hlv, HB, HA, HS, LB⟩ := hrel
        rename_i wr
        have HL := Aside0.mk (Below.refl wr.heap.size wr)
        have hle : lfrom lv m = m := by rw [← hlv]; exact lfrom_end lv
        go_wp2
        go_loop [15, 16] (fun v15 v16 => ∃ (d : Nat) (e : Int), v15 = .int .i64 (lfrom lv d : Int) ∧ v16 = .int .i64 e ∧ e = (d : Int) - 1 ∧ d ≤ m) (fun _ v => (intOf v + 1).toNat)
        case atStart => exact ⟨m, (m : Int) - 1, by rw [hle], rfl, rfl, Nat.le_refl _⟩
        case round =>
          obtain ⟨d, e, rfl, rfl, he, hd⟩ := hrel
          clear hle
          rcases d with _ | d
          · obtain rfl : e = -1 := by omega
            obtain ⟨L0, hL0⟩ : ∃ L0 : Nat, lfrom lv 0 = L0 := ⟨_, rfl⟩
            have hL1 : L0 ≤ m := by rw [← hL0, ← hlv]; exact lfrom_le lv 0 (Nat.zero_le _)
            rw [hL0]
            have HL0 := Aside0.mk hL0
            clear hL0 he hd
            by_cases hLm : L0 < m
            · have hLe : ((L0 : Int) == (m : Int)) = false := by simp; omega
              go_wp2_with (first | (go_at_call 12; (with_reducible refine (least_x lv (HA.out.below (by repeat (first | (with_reducible first | exact HL.out | apply below_alloc | apply pw_below_drewN | apply below_drew1) | exact HL.out))) (by omega) (L0 : Int) 2 (by rw [HL0.out]) (by rw [HL0.out, hlv]; exact if_pos hLm)).mono ?_); rintro e w9 ⟨rfl, hA, hF⟩; have hF := Fr.trans (Fr.of_below (by repeat (first | (with_reducible first | exact HL.out | apply below_alloc | apply pw_below_drewN | apply below_drew1) | exact HL.out))) hF; have n0_ := Aside0.mk (Fr.below hF HB.out hg (below_size HB.out)); clear HB; have HB := n0_; clear n0_; have n_ := Aside0.mk (HRow.fr HS.out hF); clear HS; have HS := n_; clear n_; have ⟨qS0, qS1, lS⟩ := HRow.at_ HS.out L0 (by omega) (L0 : Int) 1 (hxs_get m L0 (by omega)); clear HA; have HA := Aside0.mk (show AX w9 w1.heap.size 65536 65536 (allocB 65536 (bsOf lv) ⟨#[120]⟩) from hA); clear hA HL hF; have HL := Aside0.mk (Below.refl w9.heap.size w9)))
              all_goals go_quiet (fail)
              all_goals go_wp2
              all_goals go_ret
              all_goals exact ⟨rfl, (by repeat (first | (with_reducible first | exact HB.out | apply below_alloc | apply pw_below_drewN | apply below_drew1) | exact HB.out))⟩
            · obtain rfl : m = L0 := by omega
              clear hLm
              go_wp2_with (first | (go_at_call 12; (with_reducible refine (least_x lv (HA.out.below (by repeat (first | (with_reducible first | exact HL.out | apply below_alloc | apply pw_below_drewN | apply below_drew1) | exact HL.out))) (by omega) (m : Int) 1 (by rw [HL0.out]) (by rw [HL0.out, hlv]; exact if_neg (Nat.lt_irrefl _))).mono ?_); rintro e w9 ⟨rfl, hA, hF⟩; have hF := Fr.trans (Fr.of_below (by repeat (first | (with_reducible first | exact HL.out | apply below_alloc | apply pw_below_drewN | apply below_drew1) | exact HL.out))) hF; have n0_ := Aside0.mk (Fr.below hF HB.out hg (below_size HB.out)); clear HB; have HB := n0_; clear n0_; have n_ := Aside0.mk (HRow.fr HS.out hF); clear HS; have HS := n_; clear n_; clear HA; have HA := Aside0.mk (show AX w9 w1.heap.size 65536 65536 (allocB 65536 (bsOf lv) ⟨#[120]⟩) from hA); clear hA HL hF; have HL := Aside0.mk (Below.refl w9.heap.size w9)))
              all_goals go_quiet (fail)
              all_goals go_wp2
              all_goals go_ret
              all_goals exact ⟨rfl, (by repeat (first | (with_reducible first | exact HB.out | apply below_alloc | apply pw_below_drewN | apply below_drew1) | exact HB.out))⟩
          · obtain rfl : e = (d : Int) := by omega
            obtain ⟨b, hb⟩ : ∃ b, lv[d]? = some b := ⟨_, List.getElem?_eq_getElem (by omega)⟩
            have ⟨qL, fL, lL⟩ := LRow.at_ LB.out d b hb
            have HS1 := Aside0.mk (lfrom_step lv d b hb)
            clear he hb
            cases b
            all_goals go_wp2
            all_goals go_round
            all_goals (try (case rel => exact ⟨d, _, by rw [HS1.out]; rfl, rfl, rfl, by omega⟩))
            all_goals (try (case measure => (simp [intOf] <;> omega)))
set_option maxHeartbeats 2000000 in
set_option maxRecDepth 100000 in
theorem least_some (a0 : Int) (m : Nat) (ad : Addr) (l : Nat) (c : Nat) (w : World) (h0 : 0 ≤ a0) (h1 : a0 ≤ 255) (hm : 1 + a0 % 30 = (m : Int)) (hm1 : 1 ≤ m) (hm2 : m ≤ 30) (hlm : l ≤ 140737488351232) (HK : Aside0 (∀ W', Has w W' → ∀ i : Nat, i < l → ∃ x : Nat, x ≤ 255 ∧ W'.cell? (ad.add i) = some (.int .u8 (x : Int)))) : Calls Try.prog 6 #[.int .u8 a0, .slice (some ad) l c] w fun e w' => e = .returned (.bool true) ∧ Below w.heap.size w w' := by
  have HB := Aside0.mk (Below.refl w.heap.size w)
  have HL := Aside0.mk (Below.refl w.heap.size w)
  have hmk := print_make_of (P := Try.prog) 47 4 (.bool false) 1 Try.underlying47 (by kernel_rfl) rfl (by decide) m (by omega)
  have hmd := made_lv m
  go_enter Try.func6, Try.ntmps6
  go_wp2_with (first | (go_at_call 10; (with_reducible refine (examples_c _).mono ?_); rintro e w1 ⟨rfl, hb⟩; have n0_ := Aside0.mk (below_step (by repeat (first | (with_reducible first | exact HB.out | apply below_alloc | apply pw_below_drewN | apply below_drew1) | exact HB.out)) hb); clear HB; have HB := n0_; clear n0_; have hs_ := below_step (by repeat (first | (with_reducible first | exact HL.out | apply below_alloc | apply pw_below_drewN | apply below_drew1) | exact HL.out)) hb; have hg := below_size HB.out; clear HL hs_ hb; have HL := Aside0.mk (Below.refl w1.heap.size w1)) | (go_at_call 11; (with_reducible refine (x_new 65536 _ (by decide) (by decide)).mono ?_); rintro e w2 ⟨rfl, hA, hb⟩; have HA := Aside0.mk hA; clear hA; have n0_ := Aside0.mk (below_step (by repeat (first | (with_reducible first | exact HB.out | apply below_alloc | apply pw_below_drewN | apply below_drew1) | exact HB.out)) hb); clear HB; have HB := n0_; clear n0_; have hs_ := below_step (by repeat (first | (with_reducible first | exact HL.out | apply below_alloc | apply pw_below_drewN | apply below_drew1) | exact HL.out)) hb; have hw2 := below_size HB.out; clear HL hs_ hb; have HL := Aside0.mk (Below.refl w2.heap.size w2)))
  go_loopw [8, 10] (fun v8 v10 wr => ∃ (i : Nat) (hv : Value), hv = v8 ∧ v10 = .int .i64 i ∧ i ≤ m ∧ Aside0 (Below w.heap.size w wr) ∧ Aside0 (AX wr w1.heap.size 65536 65536 (bsOf (List.replicate i true))) ∧ Aside0 (HRow wr w.heap.size hv (hxs i)) ∧ Aside0 (LRow wr w2.heap.size (lvA m i))) (fun _ v _ => m - (intOf v).toNat)
  case atStart => exact ⟨0, _, rfl, rfl, by omega, ⟨(by repeat (first | (with_reducible first | exact HB.out | apply below_alloc | apply pw_below_drewN | apply below_drew1) | exact HB.out))⟩, ⟨HA.out.below (by repeat (first | (with_reducible first | exact HL.out | apply below_alloc | apply pw_below_drewN | apply below_drew1) | exact HL.out))⟩, ⟨HRow.none_ _ _⟩, ⟨show LRow _ _ _ from (by repeat (first | (with_reducible refine blk_drewN ?_ _) | (with_reducible refine blk_drew ?_) | exact blk_new' (by first | rfl | simp) | (with_reducible refine blk_alloc ?_ _)))⟩⟩
  case round =>
    clear HB HA HL
    obtain ⟨i, hv, rfl, rfl, hi, HB, HA, HS, LB⟩ := hrel
    have HL := Aside0.mk (Below.refl wr.heap.size wr)
    by_cases hlt : i < m
    · go_wp2_with (first | (go_at_call 12; (with_reducible refine (least_new i (HA.out.below (by repeat (first | (with_reducible first | exact HL.out | apply below_alloc | apply pw_below_drewN | apply below_drew1) | exact HL.out))) (by omega) (by omega)).mono ?_); rintro e w6 ⟨rfl, hA, hF⟩; have hF := Fr.trans (Fr.of_below (by repeat (first | (with_reducible first | exact HL.out | apply below_alloc | apply pw_below_drewN | apply below_drew1) | exact HL.out))) hF; have n0_ := Aside0.mk (Fr.below hF HB.out hg (below_size HB.out)); clear HB; have HB := n0_; clear n0_; have n_ := Aside0.mk (HRow.fr HS.out hF); clear HS; have HS := n_; clear n_; have n_ := Aside0.mk ((show LRow _ w2.heap.size _ from hF.blk LB.out (by unfold AT; decide))); clear LB; have LB := n_; clear n_; clear HA; have HA := Aside0.mk (show AX w6 w1.heap.size 65536 65536 (bsOf (List.replicate (i + 1) true)) from hA); clear hA HL hF; have HL := Aside0.mk (Below.refl w6.heap.size w6)) | ((with_reducible refine gate_builtin (b := .append) (xs := #[.tmp 43, .tmp 45]) rfl ?_); at_builtin; refine h_append (w0 := w) w.heap.size rfl (.tmp 43) (.tmp 45) rfl hv (hxs i) (i : Int) 1 rfl rfl (by simp) (HRow.below HS.out (by repeat (first | (with_reducible first | exact HL.out | apply below_alloc | apply pw_below_drewN | apply below_drew1) | exact HL.out))) (by repeat (first | (with_reducible first | exact HB.out | apply below_alloc | apply pw_below_drewN | apply below_drew1) | exact HB.out)) (below_size (by repeat (first | (with_reducible first | exact HB.out | apply below_alloc | apply pw_below_drewN | apply below_drew1) | exact HB.out))) (by rw [hxs_len]; omega) ?_; intro v7 w7 r1 b1 g1; have n_ := Aside0.mk (AX.over (HA.out.below (by repeat (first | (with_reducible first | exact HL.out | apply below_alloc | apply pw_below_drewN | apply below_drew1) | exact HL.out))) (HRow.typed (HRow.below HS.out (by repeat (first | (with_reducible first | exact HL.out | apply below_alloc | apply pw_below_drewN | apply below_drew1) | exact HL.out)))) (by unfold AT; decide) g1); have nl_ := Aside0.mk (show LRow w7 w2.heap.size (lvA m i) from blk_grown (blk_below LB.out (by repeat (first | (with_reducible first | exact HL.out | apply below_alloc | apply pw_below_drewN | apply below_drew1) | exact HL.out))) g1 (Kd.R_ne (HRow.below HS.out (by repeat (first | (with_reducible first | exact HL.out | apply below_alloc | apply pw_below_drewN | apply below_drew1) | exact HL.out))) (blk_below LB.out (by repeat (first | (with_reducible first | exact HL.out | apply below_alloc | apply pw_below_drewN | apply below_drew1) | exact HL.out))) (by decide))); clear HA HS HB LB HL; have HA := n_; have LB := nl_; have HB := Aside0.mk b1; have HS := Aside0.mk (show HRow w7 w.heap.size v7 (hxs (i + 1)) from (by rw [hxs_succ]; exact r1)); have ⟨qL, fL, lL⟩ := LRow.at_ LB.out i false (lvA_at m i hlt); clear n_ nl_; clear r1 b1 g1; have HL := Aside0.mk (Below.refl w7.heap.size w7)))
      all_goals go_roundw
      all_goals (try (case rel => exact ⟨i + 1, _, rfl, by go_num, by omega, ⟨HB.out.setCell (p := ⟨w2.heap.size, i, none⟩) (hw2) _⟩, ⟨HA.out.other LB.out (by unfold AT; decide) i _⟩, ⟨HRow.set HS.out LB.out (by decide) i _⟩, ⟨by have := LRow.put LB.out i true; rwa [lvA_set m i hlt] at this⟩⟩))
      all_goals (try (case measure => (simp [intOf] <;> omega)))
    · obtain rfl : m = i := by omega
      clear hlt hi
      obtain ⟨gb, cb, rfl⟩ := HRow.addr HS.out (by rw [hxs_len]; omega)
      rw [hxs_len] at *
      have n_ := Aside0.mk (show LRow wr w2.heap.size (List.replicate m true) from (by rw [← lvA_end]; exact LB.out))
      clear LB
      have LB := n_
      clear n_
      go_wp2
      go_loopw [13] (fun v13 wr => ∃ (j : Nat) (lv : List Bool), v13 = .int .i64 j ∧ lv.length = m ∧ Aside0 (Below w.heap.size w wr) ∧ Aside0 (AX wr w1.heap.size 65536 65536 (bsOf lv)) ∧ Aside0 (HRow wr w.heap.size (.slice (some ⟨gb, 0, none⟩) m cb) (hxs m)) ∧ Aside0 (LRow wr w2.heap.size lv)) (fun v _ => 20 - (intOf v).toNat)
      case atStart => exact ⟨0, List.replicate m true, rfl, List.length_replicate, ⟨(by repeat (first | (with_reducible first | exact HB.out | apply below_alloc | apply pw_below_drewN | apply below_drew1) | exact HB.out))⟩, ⟨HA.out.below (by repeat (first | (with_reducible first | exact HL.out | apply below_alloc | apply pw_below_drewN | apply below_drew1) | exact HL.out))⟩, ⟨HRow.below HS.out (by repeat (first | (with_reducible first | exact HL.out | apply below_alloc | apply pw_below_drewN | apply below_drew1) | exact HL.out))⟩, ⟨by first | exact LB.out | exact blk_drewN LB.out _⟩⟩
      case round =>
        clear HB HA HL HS LB
        obtain ⟨j, lv, rfl, hlv, HB, HA, HS, LB⟩ := hrel
        rename_i wr
        have HL := Aside0.mk (Below.refl wr.heap.size wr)
        by_cases hc : j < l ∧ j < 20
        · obtain ⟨h2, h3⟩ := hc
          obtain ⟨x, hx1, hcell⟩ := HK.out wr (Has.of_below HB.out) j h2
          obtain ⟨k, hk⟩ := Int.eq_ofNat_of_zero_le (show 0 ≤ (x : Int) % (m : Int) from Int.emod_nonneg _ (by omega))
          have hk2 : k < m := by have := Int.emod_lt_of_pos (x : Int) (show (0 : Int) < (m : Int) by omega); omega
          obtain ⟨b, hb⟩ : ∃ b, lv[k]? = some b := ⟨_, List.getElem?_eq_getElem (by omega)⟩
          have ⟨qS0, qS1, lS⟩ := HRow.at_ HS.out k (by omega) (k : Int) 1 (hxs_get m k (by omega))
          have ⟨qL, fL, lL⟩ := LRow.at_ LB.out k b hb
          have HBk := Aside0.mk hb
          clear hb
          cases b
          · go_upto_region 22 with fail
            go_region_law (first | (refine goes_ Try.func13 (by kernel_rfl) rfl #[.pointer (some ⟨w1.heap.size, 0, none⟩), .agg #[.int .u32 (k : Int), .int .u32 1]] (by rfl) rfl rfl (by simp only [List.map_toArray, List.map_cons, List.map_nil]; rfl) ?_; refine (least_free lv (HA.out.below (by repeat (first | (with_reducible first | exact HL.out | apply below_alloc | apply pw_below_drewN | apply below_drew1) | exact HL.out))) (by omega) k false HBk.out).mono ?_; rintro e w8 ⟨rfl, hA, hF⟩; refine ⟨_, rfl, ?_⟩; have hF := Fr.trans (Fr.of_below (by repeat (first | (with_reducible first | exact HL.out | apply below_alloc | apply pw_below_drewN | apply below_drew1) | exact HL.out))) hF; have n0_ := Aside0.mk (Fr.below hF HB.out hg (below_size HB.out)); clear HB; have HB := n0_; clear n0_; have n_ := Aside0.mk (HRow.fr HS.out hF); clear qS0 qS1 lS; clear HS; have HS := n_; clear n_; have ⟨qS0, qS1, lS⟩ := HRow.at_ HS.out k (by omega) (k : Int) 1 (hxs_get m k (by omega)); have n_ := Aside0.mk ((show LRow _ w2.heap.size _ from hF.blk LB.out (by unfold AT; decide))); clear qL fL lL; clear LB; have LB := n_; clear n_; have ⟨qL, fL, lL⟩ := LRow.at_ LB.out k false HBk.out; clear HA; have HA := Aside0.mk (show AX w8 w1.heap.size 65536 65536 (bsOf (lv.set k false)) from hA); clear hA HL hF; have HL := Aside0.mk (Below.refl w8.heap.size w8)))
            all_goals go_wp2
            all_goals go_roundw
            all_goals (try (case rel => exact ⟨j + 1, lv.set k false, by go_num, by rw [List.length_set]; exact hlv, ⟨HB.out.setCell (p := ⟨w2.heap.size, k, none⟩) hw2 _⟩, ⟨HA.out.other LB.out (by unfold AT; decide) k _⟩, ⟨HRow.set HS.out LB.out (by decide) k _⟩, ⟨LRow.put LB.out k false⟩⟩))
            all_goals (try (case measure => (simp [intOf] <;> omega)))
          · go_upto_region 22 with fail
            go_region_law (first | (refine goes_ Try.func13 (by kernel_rfl) rfl #[.pointer (some ⟨w1.heap.size, 0, none⟩), .agg #[.int .u32 (k : Int), .int .u32 1]] (by rfl) rfl rfl (by simp only [List.map_toArray, List.map_cons, List.map_nil]; rfl) ?_; refine (least_free lv (HA.out.below (by repeat (first | (with_reducible first | exact HL.out | apply below_alloc | apply pw_below_drewN | apply below_drew1) | exact HL.out))) (by omega) k true HBk.out).mono ?_; rintro e w8 ⟨rfl, hA, hF⟩; refine ⟨_, rfl, ?_⟩; have hF := Fr.trans (Fr.of_below (by repeat (first | (with_reducible first | exact HL.out | apply below_alloc | apply pw_below_drewN | apply below_drew1) | exact HL.out))) hF; have n0_ := Aside0.mk (Fr.below hF HB.out hg (below_size HB.out)); clear HB; have HB := n0_; clear n0_; have n_ := Aside0.mk (HRow.fr HS.out hF); clear qS0 qS1 lS; clear HS; have HS := n_; clear n_; have ⟨qS0, qS1, lS⟩ := HRow.at_ HS.out k (by omega) (k : Int) 1 (hxs_get m k (by omega)); have n_ := Aside0.mk ((show LRow _ w2.heap.size _ from hF.blk LB.out (by unfold AT; decide))); clear qL fL lL; clear LB; have LB := n_; clear n_; have ⟨qL, fL, lL⟩ := LRow.at_ LB.out k true HBk.out; clear HA; have HA := Aside0.mk (show AX w8 w1.heap.size 65536 65536 (bsOf (lv.set k false)) from hA); clear hA HL hF; have HL := Aside0.mk (Below.refl w8.heap.size w8)))
            all_goals go_wp2
            all_goals go_roundw
            all_goals (try (case rel => exact ⟨j + 1, lv.set k false, by go_num, by rw [List.length_set]; exact hlv, ⟨HB.out.setCell (p := ⟨w2.heap.size, k, none⟩) hw2 _⟩, ⟨HA.out.other LB.out (by unfold AT; decide) k _⟩, ⟨HRow.set HS.out LB.out (by decide) k _⟩, ⟨LRow.put LB.out k false⟩⟩))
            all_goals (try (case measure => (simp [intOf] <;> omega)))
        · rcases Nat.lt_or_ge j l with h2 | h2
          · have h3 : 20 ≤ j := by omega
            clear hc
            have hle : lfrom lv m = m := by rw [← hlv]; exact lfrom_end lv
            go_wp2
            go_loop [15, 16] (fun v15 v16 => ∃ (d : Nat) (e : Int), v15 = .int .i64 (lfrom lv d : Int) ∧ v16 = .int .i64 e ∧ e = (d : Int) - 1 ∧ d ≤ m) (fun _ v => (intOf v + 1).toNat)
            case atStart => exact ⟨m, (m : Int) - 1, by rw [hle], rfl, rfl, Nat.le_refl _⟩
            case round =>
              obtain ⟨d, e, rfl, rfl, he, hd⟩ := hrel
              clear hle
              rcases d with _ | d
              · obtain rfl : e = -1 := by omega
                obtain ⟨L0, hL0⟩ : ∃ L0 : Nat, lfrom lv 0 = L0 := ⟨_, rfl⟩
                have hL1 : L0 ≤ m := by rw [← hL0, ← hlv]; exact lfrom_le lv 0 (Nat.zero_le _)
                rw [hL0]
                have HL0 := Aside0.mk hL0
                clear hL0 he hd
                by_cases hLm : L0 < m
                · have hLe : ((L0 : Int) == (m : Int)) = false := by simp; omega
                  go_wp2_with (first | (go_at_call 12; (with_reducible refine (least_x lv (HA.out.below (by repeat (first | (with_reducible first | exact HL.out | apply below_alloc | apply pw_below_drewN | apply below_drew1) | exact HL.out))) (by omega) (L0 : Int) 2 (by rw [HL0.out]) (by rw [HL0.out, hlv]; exact if_pos hLm)).mono ?_); rintro e w9 ⟨rfl, hA, hF⟩; have hF := Fr.trans (Fr.of_below (by repeat (first | (with_reducible first | exact HL.out | apply below_alloc | apply pw_below_drewN | apply below_drew1) | exact HL.out))) hF; have n0_ := Aside0.mk (Fr.below hF HB.out hg (below_size HB.out)); clear HB; have HB := n0_; clear n0_; have n_ := Aside0.mk (HRow.fr HS.out hF); clear HS; have HS := n_; clear n_; have ⟨qS0, qS1, lS⟩ := HRow.at_ HS.out L0 (by omega) (L0 : Int) 1 (hxs_get m L0 (by omega)); clear HA; have HA := Aside0.mk (show AX w9 w1.heap.size 65536 65536 (allocB 65536 (bsOf lv) ⟨#[120]⟩) from hA); clear hA HL hF; have HL := Aside0.mk (Below.refl w9.heap.size w9)))
                  all_goals go_quiet (fail)
                  all_goals go_wp2
                  all_goals go_ret
                  all_goals exact ⟨rfl, (by repeat (first | (with_reducible first | exact HB.out | apply below_alloc | apply pw_below_drewN | apply below_drew1) | exact HB.out))⟩
                · obtain rfl : m = L0 := by omega
                  clear hLm
                  go_wp2_with (first | (go_at_call 12; (with_reducible refine (least_x lv (HA.out.below (by repeat (first | (with_reducible first | exact HL.out | apply below_alloc | apply pw_below_drewN | apply below_drew1) | exact HL.out))) (by omega) (m : Int) 1 (by rw [HL0.out]) (by rw [HL0.out, hlv]; exact if_neg (Nat.lt_irrefl _))).mono ?_); rintro e w9 ⟨rfl, hA, hF⟩; have hF := Fr.trans (Fr.of_below (by repeat (first | (with_reducible first | exact HL.out | apply below_alloc | apply pw_below_drewN | apply below_drew1) | exact HL.out))) hF; have n0_ := Aside0.mk (Fr.below hF HB.out hg (below_size HB.out)); clear HB; have HB := n0_; clear n0_; have n_ := Aside0.mk (HRow.fr HS.out hF); clear HS; have HS := n_; clear n_; clear HA; have HA := Aside0.mk (show AX w9 w1.heap.size 65536 65536 (allocB 65536 (bsOf lv) ⟨#[120]⟩) from hA); clear hA HL hF; have HL := Aside0.mk (Below.refl w9.heap.size w9)))
                  all_goals go_quiet (fail)
                  all_goals go_wp2
                  all_goals go_ret
                  all_goals exact ⟨rfl, (by repeat (first | (with_reducible first | exact HB.out | apply below_alloc | apply pw_below_drewN | apply below_drew1) | exact HB.out))⟩
              · obtain rfl : e = (d : Int) := by omega
                obtain ⟨b, hb⟩ : ∃ b, lv[d]? = some b := ⟨_, List.getElem?_eq_getElem (by omega)⟩
                have ⟨qL, fL, lL⟩ := LRow.at_ LB.out d b hb
                have HS1 := Aside0.mk (lfrom_step lv d b hb)
                clear he hb
                cases b
                all_goals go_wp2
                all_goals go_round
                all_goals (try (case rel => exact ⟨d, _, by rw [HS1.out]; rfl, rfl, rfl, by omega⟩))
                all_goals (try (case measure => (simp [intOf] <;> omega)))
          · clear hc
            have hle : lfrom lv m = m := by rw [← hlv]; exact lfrom_end lv
            go_wp2
            go_loop [15, 16] (fun v15 v16 => ∃ (d : Nat) (e : Int), v15 = .int .i64 (lfrom lv d : Int) ∧ v16 = .int .i64 e ∧ e = (d : Int) - 1 ∧ d ≤ m) (fun _ v => (intOf v + 1).toNat)
            case atStart => exact ⟨m, (m : Int) - 1, by rw [hle], rfl, rfl, Nat.le_refl _⟩
            case round =>
              obtain ⟨d, e, rfl, rfl, he, hd⟩ := hrel
              clear hle
              rcases d with _ | d
              · obtain rfl : e = -1 := by omega
                obtain ⟨L0, hL0⟩ : ∃ L0 : Nat, lfrom lv 0 = L0 := ⟨_, rfl⟩
                have hL1 : L0 ≤ m := by rw [← hL0, ← hlv]; exact lfrom_le lv 0 (Nat.zero_le _)
                rw [hL0]
                have HL0 := Aside0.mk hL0
                clear hL0 he hd
                by_cases hLm : L0 < m
                · have hLe : ((L0 : Int) == (m : Int)) = false := by simp; omega
                  go_wp2_with (first | (go_at_call 12; (with_reducible refine (least_x lv (HA.out.below (by repeat (first | (with_reducible first | exact HL.out | apply below_alloc | apply pw_below_drewN | apply below_drew1) | exact HL.out))) (by omega) (L0 : Int) 2 (by rw [HL0.out]) (by rw [HL0.out, hlv]; exact if_pos hLm)).mono ?_); rintro e w9 ⟨rfl, hA, hF⟩; have hF := Fr.trans (Fr.of_below (by repeat (first | (with_reducible first | exact HL.out | apply below_alloc | apply pw_below_drewN | apply below_drew1) | exact HL.out))) hF; have n0_ := Aside0.mk (Fr.below hF HB.out hg (below_size HB.out)); clear HB; have HB := n0_; clear n0_; have n_ := Aside0.mk (HRow.fr HS.out hF); clear HS; have HS := n_; clear n_; have ⟨qS0, qS1, lS⟩ := HRow.at_ HS.out L0 (by omega) (L0 : Int) 1 (hxs_get m L0 (by omega)); clear HA; have HA := Aside0.mk (show AX w9 w1.heap.size 65536 65536 (allocB 65536 (bsOf lv) ⟨#[120]⟩) from hA); clear hA HL hF; have HL := Aside0.mk (Below.refl w9.heap.size w9)))
                  all_goals go_quiet (fail)
                  all_goals go_wp2
                  all_goals go_ret
                  all_goals exact ⟨rfl, (by repeat (first | (with_reducible first | exact HB.out | apply below_alloc | apply pw_below_drewN | apply below_drew1) | exact HB.out))⟩
                · obtain rfl : m = L0 := by omega
                  clear hLm
                  go_wp2_with (first | (go_at_call 12; (with_reducible refine (least_x lv (HA.out.below (by repeat (first | (with_reducible first | exact HL.out | apply below_alloc | apply pw_below_drewN | apply below_drew1) | exact HL.out))) (by omega) (m : Int) 1 (by rw [HL0.out]) (by rw [HL0.out, hlv]; exact if_neg (Nat.lt_irrefl _))).mono ?_); rintro e w9 ⟨rfl, hA, hF⟩; have hF := Fr.trans (Fr.of_below (by repeat (first | (with_reducible first | exact HL.out | apply below_alloc | apply pw_below_drewN | apply below_drew1) | exact HL.out))) hF; have n0_ := Aside0.mk (Fr.below hF HB.out hg (below_size HB.out)); clear HB; have HB := n0_; clear n0_; have n_ := Aside0.mk (HRow.fr HS.out hF); clear HS; have HS := n_; clear n_; clear HA; have HA := Aside0.mk (show AX w9 w1.heap.size 65536 65536 (allocB 65536 (bsOf lv) ⟨#[120]⟩) from hA); clear hA HL hF; have HL := Aside0.mk (Below.refl w9.heap.size w9)))
                  all_goals go_quiet (fail)
                  all_goals go_wp2
                  all_goals go_ret
                  all_goals exact ⟨rfl, (by repeat (first | (with_reducible first | exact HB.out | apply below_alloc | apply pw_below_drewN | apply below_drew1) | exact HB.out))⟩
              · obtain rfl : e = (d : Int) := by omega
                obtain ⟨b, hb⟩ : ∃ b, lv[d]? = some b := ⟨_, List.getElem?_eq_getElem (by omega)⟩
                have ⟨qL, fL, lL⟩ := LRow.at_ LB.out d b hb
                have HS1 := Aside0.mk (lfrom_step lv d b hb)
                clear he hb
                cases b
                all_goals go_wp2
                all_goals go_round
                all_goals (try (case rel => exact ⟨d, _, by rw [HS1.out]; rfl, rfl, rfl, by omega⟩))
                all_goals (try (case measure => (simp [intOf] <;> omega)))
theorem ArenaLeast_walk (a0 : Int) (y : List Int) (A : Option Addr) (c : Nat) (w : World) (w0 : (Lit.int .u8 a0).wf = true) (hl : y.length ≤ c) (hk : ∀ W', Has w W' → Kd.C (Kd.int .u8) W' A y.length y) (hg : ShortRow (Try.prog.bytesOf 5) (fun n => (Lit.int .u8 n).wf = true) y) :
    Calls Try.prog 6 #[.int .u8 a0, .slice A y.length c] w fun e w' => e = .returned (.bool true) ∧ Below w.heap.size w w' := by
  obtain ⟨n0, n1⟩ := Go.bounds_u8 w0
  obtain ⟨ho, hlm, hc⟩ := u8_open hk hg
  obtain ⟨m, hm⟩ := Int.eq_ofNat_of_zero_le (show 0 ≤ 1 + a0 % 30 by omega)
  rcases A with _ | ad
  · rcases ho with h | ⟨ad, h⟩
    · rw [h]
      exact least_none a0 m c w n0 n1 hm (by omega) (by omega)
    · exact absurd h (by simp)
  · exact least_some a0 m ad y.length c w n0 n1 hm (by omega) (by omega) hlm ⟨fun W' hW i hi => by
      obtain ⟨x, h1, _, h3⟩ := hc ad rfl W' hW i hi
      exact ⟨x, h1, h3⟩⟩
end Go.Proofs.Ytdnpfnoobjbanaa.Hand
