/- Chapter 8: how tightly an operation binds. -/
import Derived.Test.YtimmomhgljofnaaDoorV0
set_option linter.unusedVariables false
set_option linter.unusedSimpArgs false
namespace Go.Proofs.YtimmomhgljofnaaDoor.Hand
open Go.RowKit Go.Proofs.YtimmomhgljofnaaDoorW.PrintWords Go.Proofs.YtimmomhgljofnaaDoorW.PrintLast Go.Proofs.YtimmomhgljofnaaDoorW.PrintMore
def LV : List (List ByteArray) := [[⟨#[124, 124]⟩], [⟨#[38, 38]⟩], [⟨#[61, 61]⟩, ⟨#[33, 61]⟩], [⟨#[60]⟩, ⟨#[60, 61]⟩, ⟨#[62]⟩, ⟨#[62, 61]⟩], [⟨#[43]⟩, ⟨#[45]⟩], [⟨#[42]⟩, ⟨#[47]⟩, ⟨#[37]⟩]]
def inL (op : ByteArray) (l : List ByteArray) : Bool := l.any (fun y => op.toList == y.toList)
def lvl (op : ByteArray) : Int := 1 + idxB (inL op) LV 0
theorem row_at {W : World} {e : Nat} {ad : Addr} {n : Nat} {L : List (List ByteArray)} (h : Kd.C (Kd.slice e Kd.string) W (some ad) n L) (k : Nat) (x : List ByteArray) (hx : L[k]? = some x) : ∃ A c, W.cell? (ad.add k) = some (.slice A x.length c) ∧ x.length ≤ c ∧ Kd.C Kd.string W A x.length x := by
  obtain ⟨hk, _⟩ := List.getElem?_eq_some_iff.1 hx
  obtain ⟨ad', e', hr⟩ := h.2.2 (by have := h.1; omega)
  have e' := Option.some.inj e'
  subst e'
  obtain ⟨cs, hl, hK, hc⟩ := hr k x hx
  obtain ⟨A, c, rfl, h1, h2⟩ := hK
  have a0 := hc 0 _ rfl
  have e1 : ad.add (k * (Kd.slice e Kd.string).sz + 0) = ad.add k := by rw [show k * (Kd.slice e Kd.string).sz + 0 = k from by rw [show (Kd.slice e Kd.string).sz = 1 from rfl]; omega]
  rw [e1] at a0
  exact ⟨A, c, a0, h1, h2⟩
set_option maxHeartbeats 1000000 in
set_option maxRecDepth 100000 in
theorem level1_c {W : World} {A : Option Addr} {n c b : Nat} {l : List ByteArray} {op : ByteArray} (hr : Kd.C Kd.string W A n l) (hc : n ≤ c) (hlm : n ≤ 140737488351232) (hb : W.heap[b]? = some (.cells #[.string op] 9 (0, 0))) (bb : Bool) (hbb : inL op l = bb) :
    Calls Tryd.prog 65 #[.slice A n c, .pointer (some ⟨b, 0, none⟩)] W fun e w' => e = .returned (.bool bb) ∧ Below W.heap.size W w' := by
  have HB := Aside0.mk (Below.refl W.heap.size W)
  have HL := Aside0.mk (Below.refl W.heap.size W)
  have HR := Aside0.mk hr
  have q0 := blk_cell hb 0
  simp only [List.getElem?_toArray, List.getElem?_cons_zero] at q0
  have HIB := Aside0.mk (show l.any (fun y => op.toList == y.toList) = bb from hbb)
  clear hr hb
  go_enter Tryd.func65, Tryd.ntmps65
  go_wp2_with (first | (go_at_call 66; (with_reducible refine (scontains_c (Kd.C_below HR.out (by repeat (first | (with_reducible first | exact HB.out | apply below_alloc | apply pw_below_drewN | apply below_drew1) | exact HB.out))) hc (by omega) op _ HIB.out).mono ?_); rintro e w1 ⟨rfl, hb⟩; have n0_ := Aside0.mk (below_step (by repeat (first | (with_reducible first | exact HB.out | apply below_alloc | apply pw_below_drewN | apply below_drew1) | exact HB.out)) hb); clear HB; have HB := n0_; clear n0_; have hs_ := below_step (by repeat (first | (with_reducible first | exact HL.out | apply below_alloc | apply pw_below_drewN | apply below_drew1) | exact HL.out)) hb; clear HL hs_ hb; have HL := Aside0.mk (Below.refl w1.heap.size w1)))
  all_goals go_ret
  all_goals exact ⟨rfl, (by repeat (first | (with_reducible first | exact HB.out | apply below_alloc | apply pw_below_drewN | apply below_drew1) | exact HB.out))⟩
theorem LV_len (x : List ByteArray) (h : x ∈ LV) : x.length ≤ 4 := by
  simp [LV] at h
  rcases h with h | h | h | h | h | h <;> subst h <;> decide
set_option maxHeartbeats 1000000 in
set_option maxRecDepth 100000 in
theorem levix_c {W : World} {ad : Addr} {c0 bo : Nat} {op : ByteArray} (hr : Kd.C (Kd.slice 9 Kd.string) W (some ad) LV.length LV) (hb : W.heap[bo]? = some (.cells #[.string op] 9 (0, 0))) (ix : Int) (hix : idxB (inL op) LV 0 = ix) :
    Calls Tryd.prog 63 #[.slice (some ad) LV.length c0, .func (.func 65) #[] #[.pointer (some ⟨bo, 0, none⟩)]] W fun e w' => e = .returned (.int .i64 ix) ∧ Below W.heap.size W w' := by
  subst hix
  have HB := Aside0.mk (Below.refl W.heap.size W)
  have HR := Aside0.mk hr
  have BO := Aside0.mk hb
  clear hr hb
  go_enter Tryd.func63, Tryd.ntmps63
  go_wp2
  go_loopw [8] (fun v8 wr => ∃ k : Nat, v8 = .int .i64 (k : Int) ∧ k ≤ 6 ∧ (LV.take k).any (inL op) = false ∧ Aside0 (Below W.heap.size W wr) ∧ Aside0 (wr.heap[bo]? = some (.cells #[.string op] 9 (0, 0))) ∧ Aside0 (Kd.C (Kd.slice 9 Kd.string) wr (some ad) LV.length LV)) (fun v _ => 6 - (intOf v).toNat)
  case atStart => exact ⟨0, rfl, by omega, rfl, ⟨(by repeat (first | (with_reducible first | exact HB.out | apply below_alloc | apply pw_below_drewN | apply below_drew1) | exact HB.out))⟩, ⟨(by repeat (first | exact BO.out | (with_reducible refine blk_drewN ?_ _) | (with_reducible refine blk_drew ?_) | (with_reducible refine blk_alloc ?_ _)))⟩, ⟨Kd.C_below HR.out (by repeat (first | (with_reducible first | exact HB.out | apply below_alloc | apply pw_below_drewN | apply below_drew1) | exact HB.out))⟩⟩
  case round =>
    clear HB HR BO
    obtain ⟨k, rfl, hk, hno, HB, BO, HR⟩ := hrel
    by_cases hlt : k < 6
    · obtain ⟨x, hx⟩ : ∃ x, LV[k]? = some x := ⟨LV[k], List.getElem?_eq_getElem hlt⟩
      obtain ⟨A1, c1, d0, hc1, hC⟩ := row_at HR.out k _ hx
      have HC := Aside0.mk hC
      have hlm1 : x.length ≤ 140737488351232 := Nat.le_trans (LV_len x (List.mem_of_getElem? hx)) (by decide)
      clear hC
      cases hhit : inL op x with
      | true =>
        have HIT := Aside0.mk hhit
        have HAN := Aside0.mk (show idxB (inL op) LV 0 = (k : Int) by rw [idxB_at (inL op) LV k 0 x hx hhit hno, Nat.zero_add])
        clear hhit hno hx
        go_wp2_with (first | (go_at_call 65; (with_reducible refine (level1_c (Kd.C_below HC.out (Below.refl _ _)) hc1 hlm1 BO.out _ HIT.out).mono ?_); rintro e w2 ⟨rfl, hb⟩; have n0_ := Aside0.mk (below_step HB.out hb); clear HB; have HB := n0_; clear n0_; have n_ := Aside0.mk (blk_below BO.out hb); clear BO; have BO := n_; clear n_; have n_ := Aside0.mk (Kd.C_below HR.out hb); clear HR; have HR := n_; clear n_ hb))
        all_goals (try (exfalso; omega))
        all_goals go_ret
        all_goals exact ⟨by rw [HAN.out]; rfl, HB.out⟩
      | false =>
        have HIT := Aside0.mk hhit
        have HNO := Aside0.mk (any_take_succ (inL op) LV k x hx hno hhit)
        clear hhit hno hx
        go_wp2_with (first | (go_at_call 65; (with_reducible refine (level1_c (Kd.C_below HC.out (Below.refl _ _)) hc1 hlm1 BO.out _ HIT.out).mono ?_); rintro e w2 ⟨rfl, hb⟩; have n0_ := Aside0.mk (below_step HB.out hb); clear HB; have HB := n0_; clear n0_; have n_ := Aside0.mk (blk_below BO.out hb); clear BO; have BO := n_; clear n_; have n_ := Aside0.mk (Kd.C_below HR.out hb); clear HR; have HR := n_; clear n_ hb))
        all_goals (try (exfalso; omega))
        all_goals go_roundw
        all_goals (try (case rel => exact ⟨k + 1, by go_num, by omega, HNO.out, HB, BO, HR⟩))
        all_goals (try (case measure => (simp [intOf] <;> omega)))
    · obtain rfl : k = 6 := by omega
      have HNO := Aside0.mk (show idxB (inL op) LV 0 = -1 from idxB_none _ LV 0 hno)
      clear hno
      go_wp2
      all_goals (try (exfalso; omega))
      all_goals go_ret
      all_goals exact ⟨by rw [HNO.out]; rfl, HB.out⟩
set_option maxHeartbeats 1000000 in
set_option maxRecDepth 100000 in
theorem level_c {W : World} (op : ByteArray) :
    Calls Tryd.prog 56 #[.string op] W fun e w' => e = .returned (.int .i64 (lvl op)) ∧ Below W.heap.size W w' := by
  have HB := Aside0.mk (Below.refl W.heap.size W)
  have HL := Aside0.mk (Below.refl W.heap.size W)
  obtain ⟨ix, hix⟩ : ∃ i, idxB (inL op) LV 0 = i := ⟨_, rfl⟩
  have hr1 := (idxB_range (inL op) LV 0).1
  have hr2 := (idxB_range (inL op) LV 0).2
  rw [hix] at hr1 hr2
  have hr3 : ix < 7 := hr2
  have HLV := Aside0.mk (show 1 + ix = lvl op by rw [← hix]; rfl)
  have HIX := Aside0.mk hix
  clear hix hr2
  go_enter Tryd.func56, Tryd.ntmps56
  go_wp2_with (first | (go_at_call 64; (with_reducible refine (PValueBad.expr_levels.calls LV _ rfl).mono ?_); rintro e w1 ⟨v0, rfl, hN, hb⟩; have n0_ := Aside0.mk (below_step (by repeat (first | (with_reducible first | exact HB.out | apply below_alloc | apply pw_below_drewN | apply below_drew1) | exact HB.out)) hb); clear HB; have HB := n0_; clear n0_; have hs_ := below_step (by repeat (first | (with_reducible first | exact HL.out | apply below_alloc | apply pw_below_drewN | apply below_drew1) | exact HL.out)) hb; have BO := Aside0.mk (blk_below (o := .cells #[.string op] 9 (0, 0)) (g := W.heap.size) (by repeat (first | (with_reducible refine blk_drewN ?_ _) | (with_reducible refine blk_drew ?_) | exact blk_new' (by first | rfl | simp) | (with_reducible refine blk_alloc ?_ _))) hb); have qBO_0 := blk_cell BO.out 0; have lBO := blk_lt BO.out; simp only [List.getElem?_toArray, List.getElem?_cons_zero, List.getElem?_cons_succ] at qBO_0; obtain ⟨A0, c0, rfl, hc0, hC⟩ := Kd.N_reads hN; obtain ⟨ad, ea, _⟩ := hC.2.2 (by decide); subst ea; have HR := Aside0.mk hC; clear hN hC; clear HL hs_ hb; have HL := Aside0.mk (Below.refl w1.heap.size w1)) | (go_at_call 63; (with_reducible refine (levix_c (ad := ad) (c0 := c0) (bo := W.heap.size) (op := op) HR.out BO.out ix HIX.out).mono ?_); rintro e w3 ⟨rfl, hb⟩; have n0_ := Aside0.mk (below_step (by repeat (first | (with_reducible first | exact HB.out | apply below_alloc | apply pw_below_drewN | apply below_drew1) | exact HB.out)) hb); clear HB; have HB := n0_; clear n0_ hb))
  all_goals go_ret
  all_goals exact ⟨by rw [← HLV.out]; rfl, (by repeat (first | (with_reducible first | exact HB.out | apply below_alloc | apply pw_below_drewN | apply below_drew1) | exact HB.out))⟩
end Go.Proofs.YtimmomhgljofnaaDoor.Hand
