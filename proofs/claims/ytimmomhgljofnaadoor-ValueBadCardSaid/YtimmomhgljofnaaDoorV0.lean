/- Chapter 8: rows of texts; how tightly an operation binds. -/
import Derived.Test.YtimmomhgljofnaaDoorGX0
set_option linter.unusedVariables false
set_option linter.unusedSimpArgs false
namespace Go.Proofs.YtimmomhgljofnaaDoor.Hand
open Go.RowKit Go.Proofs.YtimmomhgljofnaaDoorW.PrintWords Go.Proofs.YtimmomhgljofnaaDoorW.PrintLast Go.Proofs.YtimmomhgljofnaaDoorW.PrintMore
/-- Where the first one is that is so; -1: nowhere. -/
theorem cells6 {w : World} {g t : Nat} {a b c d e f : Value} {fr : Nat × Nat} (h : w.heap[g]? = some (.cells #[a, b, c, d, e, f] t fr)) : w.cell? ⟨g, 0, none⟩ = some a ∧ w.cell? ⟨g, 1, none⟩ = some b ∧ w.cell? ⟨g, 2, none⟩ = some c ∧ w.cell? ⟨g, 3, none⟩ = some d ∧ w.cell? ⟨g, 4, none⟩ = some e ∧ w.cell? ⟨g, 5, none⟩ = some f ∧ g < w.heap.size :=
  ⟨by simp [World.cell?, h], by simp [World.cell?, h], by simp [World.cell?, h], by simp [World.cell?, h], by simp [World.cell?, h], by simp [World.cell?, h], (Array.getElem?_eq_some_iff.1 h).1⟩
def idxB {α : Type} (p : α → Bool) : List α → Nat → Int
  | [], _ => -1
  | x :: r, k => if p x then (k : Int) else idxB p r (k + 1)
theorem idxB_at {α : Type} (p : α → Bool) : ∀ (L : List α) (k m : Nat) (x : α), L[k]? = some x → p x = true → (L.take k).any p = false → idxB p L m = ((m + k : Nat) : Int)
  | [], _, _, _, h, _, _ => by simp at h
  | y :: r, 0, m, x, h, hp, _ => by
    simp at h
    subst h
    unfold idxB
    rw [if_pos hp, Nat.add_zero]
  | y :: r, k + 1, m, x, h, hp, hn => by
    simp at h hn
    unfold idxB
    rw [if_neg (by rw [hn.1]; simp), idxB_at p r k (m + 1) x h hp (by simpa using hn.2)]
    congr 1
    omega
theorem idxB_none {α : Type} (p : α → Bool) : ∀ (L : List α) (m : Nat), L.any p = false → idxB p L m = -1
  | [], _, _ => rfl
  | y :: r, m, h => by
    simp at h
    unfold idxB
    rw [if_neg (by rw [h.1]; simp), idxB_none p r (m + 1) (by simpa using h.2)]
theorem idxB_any {α : Type} (p : α → Bool) : ∀ (L : List α) (m : Nat), decide (idxB p L m ≥ 0) = L.any p
  | [], m => rfl
  | y :: r, m => by
    unfold idxB
    rw [List.any_cons]
    cases hp : p y
    · rw [if_neg (by simp), Bool.false_or]
      exact idxB_any p r (m + 1)
    · rw [if_pos rfl, Bool.true_or]
      exact decide_eq_true (by omega)
theorem idxB_range {α : Type} (p : α → Bool) : ∀ (L : List α) (m : Nat), -1 ≤ idxB p L m ∧ idxB p L m < ((m + L.length + 1 : Nat) : Int)
  | [], m => by unfold idxB; simp; omega
  | y :: r, m => by
    unfold idxB
    have := idxB_range p r (m + 1)
    simp only [List.length_cons] at *
    split <;> omega
theorem any_take_succ {α : Type} (p : α → Bool) (L : List α) (k : Nat) (x : α) (hx : L[k]? = some x) (h : (L.take k).any p = false) (hp : p x = false) : (L.take (k + 1)).any p = false := by
  rw [List.take_add_one, hx, List.any_append, h]
  simp [hp]
theorem C_none' {α : Type} {d : Kd α} {W : World} {n : Nat} {L : List α} (h : Kd.C d W none n L) : n = 0 ∧ L = [] := by
  have hn := h.1
  rcases Nat.eq_zero_or_pos n with h0 | h0
  · exact ⟨h0, List.eq_nil_of_length_eq_zero (by omega)⟩
  · obtain ⟨ad, e, _⟩ := h.2.2 h0
    exact absurd e (by simp)
theorem blk_new' {w : World} {o : Obj} {g : Nat} (h : g = w.heap.size) : (w.alloc o).heap[g]? = some o := by subst h; exact blk_new w o
theorem blk_in {w w1 : World} {B g : Nat} {o : Obj} (h : w.heap[g]? = some o) (hb : Below B w w1) (hg : g < B) : w1.heap[g]? = some o := (hb.block g hg).trans h
theorem far_blk {w : World} {g g2 : Nat} {o : Obj} (h : w.heap[g]? = some o) (hne : g ≠ g2) (v : Value) : (w.setCell ⟨g2, 0, none⟩ v).heap[g]? = some o := (Below.heap_setCell w ⟨g2, 0, none⟩ v g hne).trans h
theorem blk_put {w : World} {g t' : Nat} {u : Value} (hb : w.heap[g]? = some (.cells #[u] t' (0, 0))) (v : Value) : (w.setCell ⟨g, 0, none⟩ v).heap[g]? = some (.cells #[v] t' (0, 0)) := blk_set hb 0 v
theorem str_at {W : World} {ad : Addr} {n : Nat} {L : List ByteArray} (h : Kd.C Kd.string W (some ad) n L) (k : Nat) (x : ByteArray) (hx : L[k]? = some x) : W.cell? (ad.add k) = some (.string x) := by
  obtain ⟨hk, _⟩ := List.getElem?_eq_some_iff.1 hx
  obtain ⟨ad', e, hr⟩ := h.2.2 (by have := h.1; omega)
  have e' := Option.some.inj e
  subst e'
  obtain ⟨cs, hl, hK, hc⟩ := hr k x hx
  obtain rfl : cs = [.string x] := hK
  have a0 := hc 0 _ rfl
  have e1 : ad.add (k * Kd.string.sz + 0) = ad.add k := by rw [show k * Kd.string.sz + 0 = k from by rw [show Kd.string.sz = 1 from rfl]; omega]
  rw [e1] at a0
  exact a0
set_option maxHeartbeats 1000000 in
set_option maxRecDepth 100000 in
theorem sindex_c {W : World} {A : Option Addr} {n c : Nat} {L : List ByteArray} (hr : Kd.C Kd.string W A n L) (hc : n ≤ c) (hlm : n ≤ 9223372036854775807) (s : ByteArray) (b : Int) (hb : idxB (fun y => s.toList == y.toList) L 0 = b) :
    Calls Tryd.prog 43 #[.slice A n c, .string s] W fun e w' => e = .returned (.int .i64 b) ∧ Below W.heap.size W w' := by
  subst hb
  have hn := hr.1
  subst hn
  rcases A with _ | ad
  · obtain ⟨_, rfl⟩ := C_none' hr
    have HB := Aside0.mk (Below.refl W.heap.size W)
    clear hr hlm
    go_enter Tryd.func43, Tryd.ntmps43
    go_wp2
    go_loopw [8] (fun v8 wr => v8 = .int .i64 0 ∧ Aside0 (Below W.heap.size W wr)) (fun _ _ => 0)
    case atStart => exact ⟨rfl, ⟨(by repeat (first | (with_reducible first | exact HB.out | apply below_alloc | apply pw_below_drewN | apply below_drew1) | exact HB.out))⟩⟩
    case round =>
      clear HB
      obtain ⟨rfl, HB⟩ := hrel
      go_wp2
      all_goals (try (exfalso; omega))
      all_goals go_ret
      all_goals exact ⟨rfl, HB.out⟩
  have HB := Aside0.mk (Below.refl W.heap.size W)
  have HR := Aside0.mk hr
  clear hr
  go_enter Tryd.func43, Tryd.ntmps43
  go_wp2
  go_loopw [8] (fun v8 wr => ∃ k : Nat, v8 = .int .i64 (k : Int) ∧ k ≤ L.length ∧ (L.take k).any (fun y => s.toList == y.toList) = false ∧ Aside0 (Below W.heap.size W wr)) (fun v _ => L.length - (intOf v).toNat)
  case atStart => exact ⟨0, rfl, by omega, rfl, ⟨(by repeat (first | (with_reducible first | exact HB.out | apply below_alloc | apply pw_below_drewN | apply below_drew1) | exact HB.out))⟩⟩
  case round =>
    clear HB
    obtain ⟨k, rfl, hk, hno, HB⟩ := hrel
    by_cases hlt : k < L.length
    · obtain ⟨x, hx⟩ : ∃ x, L[k]? = some x := ⟨L[k], List.getElem?_eq_getElem hlt⟩
      have d0 := str_at (Kd.C_below HR.out HB.out) k _ hx
      cases hsx : s.toList == x.toList with
      | true =>
        have HAN := Aside0.mk (idxB_at (fun y => s.toList == y.toList) L k 0 x hx hsx hno)
        clear hno hx
        go_wp2
        all_goals (try (exfalso; omega))
        all_goals go_ret
        all_goals exact ⟨by rw [HAN.out]; simp, HB.out⟩
      | false =>
        have HNO := Aside0.mk (any_take_succ (fun y => s.toList == y.toList) L k x hx hno hsx)
        clear hno hx
        go_wp2
        all_goals (try (exfalso; omega))
        all_goals go_roundw
        all_goals (try (case rel => exact ⟨k + 1, by go_num, by omega, HNO.out, HB⟩))
        all_goals (try (case measure => (simp [intOf] <;> omega)))
    · obtain rfl : k = L.length := by omega
      rw [List.take_length] at hno
      have HNO := Aside0.mk (idxB_none _ L 0 hno)
      clear hno
      go_wp2
      all_goals (try (exfalso; omega))
      all_goals go_ret
      all_goals exact ⟨by rw [HNO.out]; rfl, HB.out⟩
set_option maxHeartbeats 1000000 in
set_option maxRecDepth 100000 in
theorem scontains_c {W : World} {A : Option Addr} {n c : Nat} {L : List ByteArray} (hr : Kd.C Kd.string W A n L) (hc : n ≤ c) (hlm : n ≤ 9223372036854775807) (s : ByteArray) (b : Bool) (hb : L.any (fun y => s.toList == y.toList) = b) :
    Calls Tryd.prog 66 #[.slice A n c, .string s] W fun e w' => e = .returned (.bool b) ∧ Below W.heap.size W w' := by
  have HB := Aside0.mk (Below.refl W.heap.size W)
  have HL := Aside0.mk (Below.refl W.heap.size W)
  have HR := Aside0.mk hr
  have HX := Aside0.mk (idxB_any (fun y => s.toList == y.toList) L 0)
  clear hr
  go_enter Tryd.func66, Tryd.ntmps66
  go_wp2_with (first | (go_at_call 43; (with_reducible refine (sindex_c (Kd.C_below HR.out (by repeat (first | (with_reducible first | exact HB.out | apply below_alloc | apply pw_below_drewN | apply below_drew1) | exact HB.out))) hc hlm s _ rfl).mono ?_); rintro e w1 ⟨rfl, hb⟩; have n0_ := Aside0.mk (below_step (by repeat (first | (with_reducible first | exact HB.out | apply below_alloc | apply pw_below_drewN | apply below_drew1) | exact HB.out)) hb); clear HB; have HB := n0_; clear n0_; have hs_ := below_step (by repeat (first | (with_reducible first | exact HL.out | apply below_alloc | apply pw_below_drewN | apply below_drew1) | exact HL.out)) hb; clear HL hs_ hb; have HL := Aside0.mk (Below.refl w1.heap.size w1)))
  all_goals go_ret
  all_goals exact ⟨by rw [← hb, ← HX.out]; rfl, (by repeat (first | (with_reducible first | exact HB.out | apply below_alloc | apply pw_below_drewN | apply below_drew1) | exact HB.out))⟩
end Go.Proofs.YtimmomhgljofnaaDoor.Hand
