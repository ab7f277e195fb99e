/- Chapter 8: slices.Backward, as an iterator. -/
import Derived.Test.YtimmomhgljofnaaDoorW0
set_option linter.unusedVariables false
set_option linter.unusedSimpArgs false
namespace Go.Proofs.YtimmomhgljofnaaDoor.Hand
open Go.Proofs.YtimmomhgljofnaaDoor.PValueBad Go.Shelf
open Go.RowKit Go.Proofs.YtimmomhgljofnaaDoorW.PrintWords Go.Proofs.YtimmomhgljofnaaDoorW.PrintLast Go.Proofs.YtimmomhgljofnaaDoorW.PrintMore
attribute [local go_sem] Oper.semAt_some
set_option maxHeartbeats 2000000 in
set_option maxRecDepth 100000 in
theorem back1_nil (n : Nat) (l Bs c : Nat) {w0 : World} {A : Option Addr} (hBs : w0.cell? ⟨Bs, 0, none⟩ = some (.slice A 0 c)) {α : Type} (J : List α → World → Prop) (W : World) (hW : Below w0.heap.size w0 W) (h0 : J [] W) :
    CallsIn Fence.wide n Tryd.prog 51 #[.func (.yield l) #[] #[], .pointer (some ⟨Bs, 0, none⟩)] W fun e W' => (∃ v, e = .returned v) ∧ J [] W' := by
  have hq := (hW.cell (World.block_lt_of_cell? _ _ hBs)).trans hBs
  refine callsIn_of_wp Tryd.func51 rfl trivial ?_ rfl
  simp only [Tryd.ntmps51, List.size_toArray, List.length_cons, List.length_nil, Nat.reduceAdd, Nat.reduceSub, Array.replicate_succ, Array.replicate_zero, List.push_toArray, List.append_toArray, List.nil_append, List.cons_append]
  gi_wp2
  gi_loopw [3] (fun i wr => i = .int .i64 (-1) ∧ J [] wr) (fun _ _ => 0)
  case atStart => exact ⟨rfl, h0⟩
  case round =>
    obtain ⟨rfl, hJs⟩ := hrel
    gi_wp2
    go_end0
    exact ⟨⟨_, rfl⟩, hJs⟩
set_option maxHeartbeats 1000000 in
set_option maxRecDepth 100000 in
theorem back_in (n : Nat) (A : Option Addr) (len c : Nat) (w : World) :
    CallsIn Fence.wide n Tryd.prog 42 #[.slice A len c] w fun e w' => e = .returned (.func (.func 51) #[] #[.pointer (some ⟨w.heap.size, 0, none⟩)]) ∧ w' = w.alloc (.cells #[.slice A len c] 34) := by
  refine callsIn_of_wp Tryd.func42 rfl trivial ?_ rfl
  simp only [Tryd.ntmps42, List.size_toArray, List.length_cons, List.length_nil, Nat.reduceAdd, Nat.reduceSub, Array.replicate_succ, Array.replicate_zero, List.push_toArray, List.append_toArray, List.nil_append, List.cons_append]
  gi_wp2
  go_ret
  exact ⟨rfl, rfl⟩
/-- What has come when m are left. -/
def Comes {w : World} (L : List S55) (ys : List (BXs w L)) (m : Nat) : Prop := ∃ z : Nat → BXs w L, (∀ j, j < L.length → (z j).1.i = j) ∧ ys = upB z L.length m
theorem back_stops (n : Nat) (hn : 1 ≤ n) (Bs : Nat) {w0 : World} {A : Option Addr} {len c : Nat} {L : List S55} (hC : Kd.C k55 w0 A len L) (hBs : w0.cell? ⟨Bs, 0, none⟩ = some (.slice A len c)) :
    SeqStopsK Fence.wide n Tryd.prog 51 #[.pointer (some ⟨Bs, 0, none⟩)] (encB (w := w0) (L := L)) (Below w0.heap.size) (fun ys => L = [] ∧ ys = [] ∨ Comes L ys 0) (fun pre => ∃ m, m ≤ L.length ∧ Comes L pre m) L.length w0 := fun l J Jx W hW _ _ hY h0 => by
  have hl := hC.1
  subst hl
  rcases A with _ | ad
  · obtain ⟨e1, rfl⟩ := C_none' hC
    exact (back1_nil n l Bs c hBs J W hW h0).mono fun e W' ⟨he, hj⟩ => ⟨he, .inl ⟨_, .inl ⟨rfl, rfl⟩, hj⟩⟩
  · rcases Nat.eq_zero_or_pos L.length with h | h
    · have hL : L = [] := List.eq_nil_of_length_eq_zero h
      subst hL
      exact (back1_nil n l Bs c hBs J W hW h0).mono fun e W' ⟨he, hj⟩ => ⟨he, .inl ⟨_, .inl ⟨rfl, rfl⟩, hj⟩⟩
    · have hex : ∀ j, ∃ x : BXs w0 L, j < L.length → x.1.i = j ∧ w0.cell? (ad.add (j * 3)) = some (.string x.1.nm) ∧ w0.cell? ⟨(ad.add (j * 3)).block, (ad.add (j * 3)).off + 1, none⟩ = some (.slice x.1.A1 x.1.n1 x.1.c1) ∧ w0.cell? ⟨(ad.add (j * 3)).block, (ad.add (j * 3)).off + 2, none⟩ = some (.slice x.1.A2 x.1.n2 x.1.c2) := by
        intro j
        by_cases hj : j < L.length
        · obtain ⟨x, hx⟩ := bx_at hC j hj
          exact ⟨x, fun _ => hx⟩
        · obtain ⟨x, _⟩ := bx_at hC 0 h
          exact ⟨x, fun h => absurd h hj⟩
      have hz := fun j => Classical.choose_spec (hex j)
      refine (back1_in n hn l Bs c hC (fun j => Classical.choose (hex j)) hz hBs J Jx hY W hW h0).mono ?_
      rintro e W' ⟨he, ⟨ys, rfl, hj⟩ | ⟨pre, ⟨m, hm, rfl⟩, hj⟩⟩
      · exact ⟨he, .inl ⟨_, .inr ⟨_, fun j hj => (hz j hj).1, rfl⟩, hj⟩⟩
      · exact ⟨he, .inr ⟨_, ⟨m, hm, ⟨_, fun j hj => (hz j hj).1, rfl⟩⟩, hj⟩⟩
end Go.Proofs.YtimmomhgljofnaaDoor.Hand
