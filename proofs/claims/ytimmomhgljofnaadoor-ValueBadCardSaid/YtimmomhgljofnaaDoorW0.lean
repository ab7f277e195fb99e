/- Chapter 8: slices.Backward, its rounds. -/
import Derived.Test.YtimmomhgljofnaaDoorV4
import Derived.RangeFuncNested
import Derived.RangeFuncBound
import Derived.RangeFuncCalls
import Derived.RangeFuncLeaves
import Derived.Shelf.Abstract
import Derived.Shelf.RegionOpen
import Derived.WalkKit
import Derived.OwnWalkIn
import Derived.TacticsInMore
import Derived.LoopNIn
import Derived.LoopIn
import Derived.RangeFuncBox
set_option linter.unusedVariables false
set_option linter.unusedSimpArgs false
namespace Go.Proofs.YtimmomhgljofnaaDoor.Hand
open Go.Proofs.YtimmomhgljofnaaDoor.PValueBad Go.Shelf
open Go.RowKit Go.Proofs.YtimmomhgljofnaaDoorW.PrintWords Go.Proofs.YtimmomhgljofnaaDoorW.PrintLast Go.Proofs.YtimmomhgljofnaaDoorW.PrintMore
attribute [local go_sem] Oper.semAt_some
/-- What one round is handed. -/
structure BX where
  i : Nat
  nm : ByteArray
  A1 : Option Addr
  n1 : Nat
  c1 : Nat
  A2 : Option Addr
  n2 : Nat
  c2 : Nat
def BXok (w : World) (L : List S55) (x : BX) : Prop := ∃ y, L[x.i]? = some y ∧ x.nm = y.f0 ∧ x.n1 = y.f1.length ∧ x.n1 ≤ x.c1 ∧ Kd.C Kd.string w x.A1 x.n1 y.f1 ∧ x.n2 = y.f2.length ∧ x.n2 ≤ x.c2 ∧ Kd.C (Kd.int .i64) w x.A2 x.n2 y.f2
abbrev BXs (w : World) (L : List S55) := { x : BX // BXok w L x }
def encB {w : World} {L : List S55} (x : BXs w L) : Array Value := #[.int .i64 (x.1.i : Int), .agg #[.string x.1.nm, .slice x.1.A1 x.1.n1 x.1.c1, .slice x.1.A2 x.1.n2 x.1.c2]]
theorem bx_at {w : World} {ad : Addr} {L : List S55} (h : Kd.C k55 w (some ad) L.length L) (j : Nat) (hj : j < L.length) : ∃ x : BXs w L, x.1.i = j ∧ w.cell? (ad.add (j * 3)) = some (.string x.1.nm) ∧ w.cell? ⟨(ad.add (j * 3)).block, (ad.add (j * 3)).off + 1, none⟩ = some (.slice x.1.A1 x.1.n1 x.1.c1) ∧ w.cell? ⟨(ad.add (j * 3)).block, (ad.add (j * 3)).off + 2, none⟩ = some (.slice x.1.A2 x.1.n2 x.1.c2) := by
  obtain ⟨ad', A1, c1, A2, c2, e, e0, e1, e2, l1, g1, l2, g2⟩ := at_T55 h (j : Int) (by omega) (by omega)
  have e' := Option.some.inj e
  subst e'
  rw [Int.toNat_natCast] at e0 e1 e2
  refine ⟨⟨⟨j, (rd_T55 L (j : Int)).f0, A1, _, c1, A2, _, c2⟩, ⟨rd_T55 L (j : Int), ?_, rfl, rfl, l1, g1, rfl, l2, g2⟩⟩, rfl, e0, e1, e2⟩
  show L[j]? = _
  unfold rd_T55
  rw [Int.toNat_natCast, List.getD_eq_getElem?_getD, List.getElem?_eq_getElem hj]
  rfl
/-- What has come when m are left. -/
def upB {α : Type} (z : Nat → α) (n m : Nat) : List α := (List.range (n - m)).map (fun j => z (n - 1 - j))
theorem upB_step {α : Type} (z : Nat → α) {n j : Nat} (h : j + 1 ≤ n) : upB z n j = upB z n (j + 1) ++ [z j] := by
  unfold upB
  rw [show n - j = (n - (j + 1)) + 1 from by omega, List.range_succ, List.map_append]
  congr 1
  simp
  congr 1
  omega
theorem upB_len {α : Type} (z : Nat → α) (n m : Nat) : (upB z n m).length = n - m := by simp [upB]
set_option maxHeartbeats 2000000 in
set_option maxRecDepth 100000 in
theorem back1_in (n : Nat) (hn : 1 ≤ n) (l Bs c : Nat) {w0 : World} {ad : Addr} {L : List S55} (hC : Kd.C k55 w0 (some ad) L.length L) (z : Nat → BXs w0 L)
    (hz : ∀ j, j < L.length → (z j).1.i = j ∧ w0.cell? (ad.add (j * 3)) = some (.string (z j).1.nm) ∧ w0.cell? ⟨(ad.add (j * 3)).block, (ad.add (j * 3)).off + 1, none⟩ = some (.slice (z j).1.A1 (z j).1.n1 (z j).1.c1) ∧ w0.cell? ⟨(ad.add (j * 3)).block, (ad.add (j * 3)).off + 2, none⟩ = some (.slice (z j).1.A2 (z j).1.n2 (z j).1.c2))
    (hBs : w0.cell? ⟨Bs, 0, none⟩ = some (.slice (some ad) L.length c)) (J Jx : List (BXs w0 L) → World → Prop)
    (hY : ∀ pre x W, J pre W → pre.length < L.length → YieldAt Fence.wide (n - 1) Tryd.prog l (encB x) W fun e W' => (e = .returned (.bool true) ∧ J (pre ++ [x]) W' ∧ Below w0.heap.size W W') ∨ (e = .returned (.bool false) ∧ Jx (pre ++ [x]) W'))
    (W : World) (hW : Below w0.heap.size w0 W) (h0 : J [] W) :
    CallsIn Fence.wide n Tryd.prog 51 #[.func (.yield l) #[] #[], .pointer (some ⟨Bs, 0, none⟩)] W fun e W' => (∃ v, e = .returned v) ∧
      ((∃ ys, ys = upB z L.length 0 ∧ J ys W') ∨ (∃ pre, (∃ m, m ≤ L.length ∧ pre = upB z L.length m) ∧ Jx pre W')) := by
  have hlm : L.length ≤ 9223372036854775807 := hC.2.1
  have cellK : ∀ {W' : World} {p : Addr} {v : Value}, Below w0.heap.size w0 W' → w0.cell? p = some v → W'.cell? p = some v := fun hb hp => (hb.cell (World.block_lt_of_cell? _ _ hp)).trans hp
  have hq := cellK hW hBs
  refine callsIn_of_wp Tryd.func51 rfl trivial ?_ rfl
  simp only [Tryd.ntmps51, List.size_toArray, List.length_cons, List.length_nil, Nat.reduceAdd, Nat.reduceSub, Array.replicate_succ, Array.replicate_zero, List.push_toArray, List.append_toArray, List.nil_append, List.cons_append]
  gi_wp2
  gi_loopw [3] (fun i wr => ∃ m : Nat, m ≤ L.length ∧ i = .int .i64 ((m : Int) - 1) ∧ J (upB z L.length m) wr ∧ Below w0.heap.size w0 wr) (fun i _ => (intOf i + 1).toNat)
  case atStart => exact ⟨L.length, Nat.le_refl _, rfl, by unfold upB; rw [Nat.sub_self]; exact h0, hW⟩
  case round =>
    clear hq
    obtain ⟨m, hm, rfl, hJs, hnx⟩ := hrel
    have hq := cellK hnx hBs
    rcases m with _ | j
    · gi_wp2
      all_goals (try (exfalso; omega))
      go_end0
      exact ⟨⟨_, rfl⟩, .inl ⟨_, rfl, hJs⟩⟩
    · rw [show ((j + 1 : Nat) : Int) - 1 = (j : Int) from by omega]
      obtain ⟨z0, z1, z2, z3⟩ := hz j (by omega)
      have c0 := cellK hnx z1
      have c1 := cellK hnx z2
      have c2 := cellK hnx z3
      obtain ⟨fn, tmps, assign, body, hy, hR⟩ := hY _ (z j) wr hJs (by rw [upB_len]; omega)
      unfold encB at hy
      rw [z0] at hy
      have hjl : (j : Int) < (L.length : Int) := by omega
      gi_wp2
      all_goals (try (exfalso; omega))
      refine hR.mono ?_
      rintro e W3 (⟨rfl, hJ3, hk3⟩ | ⟨rfl, hJx3⟩)
      · gi_wp2
        go_roundw
        case rel => exact ⟨j, by omega, by go_num, by rw [upB_step z (by omega)]; exact hJ3, hnx.trans hk3⟩
        case measure => (simp [intOf] <;> omega)
      · gi_wp2
        refine bodyPost_ret (results_none rfl _ _ _) rfl ?_
        exact ⟨⟨_, rfl⟩, .inr ⟨_, ⟨j, by omega, (upB_step z (by omega)).symm⟩, hJx3⟩⟩
end Go.Proofs.YtimmomhgljofnaaDoor.Hand
