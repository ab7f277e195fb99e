/- Chapter 8: value.Look. -/
import Derived.Test.YtimmomhgljofnaaDoorW1
set_option linter.unusedVariables false
set_option linter.unusedSimpArgs false
namespace Go.Proofs.YtimmomhgljofnaaDoor.Hand
open Go.Proofs.YtimmomhgljofnaaDoor.PValueBad Go.Shelf
open Go.RowKit Go.Proofs.YtimmomhgljofnaaDoorW.PrintWords Go.Proofs.YtimmomhgljofnaaDoorW.PrintLast Go.Proofs.YtimmomhgljofnaaDoorW.PrintMore
attribute [local go_sem] Oper.semAt_some
def binF (y : S55) (field : ByteArray) : Int × Bool := if idxB (fun g => field.toList == g.toList) y.f1 0 < 0 ∨ (y.f2.length : Int) ≤ idxB (fun g => field.toList == g.toList) y.f1 0 then (0, false) else (y.f2.getD (idxB (fun g => field.toList == g.toList) y.f1 0).toNat 0, true)
def isB (name : ByteArray) (y : S55) : Bool := y.f0.toList == name.toList
/-- The last one of a name. -/
def lastB (name : ByteArray) : List S55 → Option S55
  | [] => none
  | y :: r => match lastB name r with
    | some z => some z
    | none => if isB name y then some y else none
def lookF (L : List S55) (name field : ByteArray) : Int × Bool := match lastB name L with
  | none => (0, false)
  | some y => binF y field
theorem lastB_none {name : ByteArray} : ∀ {L : List S55}, (∀ (j : Nat) (y : S55), L[j]? = some y → isB name y = false) → lastB name L = none
  | [], _ => rfl
  | y :: r, h => by
    rw [lastB, lastB_none (L := r) (fun j z hz => h (j + 1) z hz), h 0 y rfl]
    rfl
theorem lastB_at {name : ByteArray} : ∀ {L : List S55} {m : Nat} {y : S55}, L[m]? = some y → isB name y = true → (∀ (j : Nat) (z : S55), m < j → L[j]? = some z → isB name z = false) → lastB name L = some y
  | [], _, _, h, _, _ => by simp at h
  | x :: r, 0, y, h, hy, hj => by
    simp at h
    subst h
    rw [lastB, lastB_none (L := r) (fun j z hz => hj (j + 1) z (by omega) hz), if_pos hy]
  | x :: r, m + 1, y, h, hy, hj => by
    simp at h
    rw [lastB, lastB_at (L := r) h hy (fun j z h1 hz => hj (j + 1) z (by omega) hz)]
theorem upB_mem {α : Type} (z : Nat → α) {n m j : Nat} (h : j < n) (hm : m ≤ j) : z j ∈ upB z n m := by
  unfold upB
  rw [List.mem_map]
  exact ⟨n - 1 - j, List.mem_range.2 (by omega), by congr 1; omega⟩
theorem bx_isB {w : World} {L : List S55} {name : ByteArray} (x : BXs w L) {y : S55} (hy : L[x.1.i]? = some y) : isB name y = (x.1.nm.toList == name.toList) := by
  obtain ⟨y', h1, h2, _⟩ := x.2
  rw [hy] at h1
  rw [Option.some.inj h1, h2]
  rfl
theorem look_none {w : World} {L : List S55} {name field : ByteArray} {ys : List (BXs w L)} (hS : L = [] ∧ ys = [] ∨ Comes L ys 0) (hp : ∀ p ∈ ys, (p.1.nm.toList == name.toList) = false) : lookF L name field = (0, false) := by
  unfold lookF
  rw [lastB_none]
  rcases hS with ⟨rfl, _⟩ | ⟨z, hz, rfl⟩
  · intro j y hy
    simp at hy
  · intro j y hy
    have hj := (List.getElem?_eq_some_iff.1 hy).1
    rw [bx_isB (z j) (by rw [hz j hj]; exact hy)]
    exact hp _ (upB_mem z hj (Nat.zero_le _))
theorem look_some {w : World} {L : List S55} {name field : ByteArray} {z : Nat → BXs w L} {m : Nat} (hz : ∀ j, j < L.length → (z j).1.i = j) (hm : m ≤ L.length) {ini : List (BXs w L)} {x : BXs w L} {y : S55} (e1 : upB z L.length m = ini ++ [x]) (e2 : ∀ p ∈ ini, (p.1.nm.toList == name.toList) = false) (e3 : (x.1.nm.toList == name.toList) = true) (e4 : L[x.1.i]? = some y) : lookF L name field = binF y field := by
  have hlt : m < L.length := by
    have := congrArg List.length e1
    rw [upB_len, List.length_append] at this
    simp at this
    omega
  rw [upB_step z hlt] at e1
  obtain ⟨rfl, e5⟩ := List.append_inj' e1 rfl
  obtain rfl : z m = x := by simpa using e5
  have hm' := hz m hlt
  unfold lookF
  rw [lastB_at (m := m) (y := y) (by rw [← hm']; exact e4) (by rw [bx_isB (z m) e4]; exact e3)]
  intro j y' hj hy'
  have hjl := (List.getElem?_eq_some_iff.1 hy').1
  rw [bx_isB (z j) (by rw [hz j hjl]; exact hy')]
  exact e2 _ (upB_mem z hjl hj)
/-- The boxes of Look: the two texts, what it answers. -/
def CE (g : Nat) (name field : ByteArray) (n : Int) (ok : Bool) (W : World) : Prop := W.cell? ⟨g, 0, none⟩ = some (.string name) ∧ W.cell? ⟨g + 1, 0, none⟩ = some (.string field) ∧ W.cell? ⟨g + 1 + 1, 0, none⟩ = some (.int .i64 n) ∧ W.cell? ⟨g + 1 + 1 + 1, 0, none⟩ = some (.bool ok) ∧ W.frozen? ⟨g + 1 + 1, 0, none⟩ = false ∧ W.frozen? ⟨g + 1 + 1 + 1, 0, none⟩ = false
theorem CE.own {g : Nat} {name field : ByteArray} {n : Int} {ok : Bool} {A B : World} {row : Option Nat} (h : CE g name field n ok A) (hg : A.grownBy B row) (hr : ∀ r, row = some r → ∃ o : Obj, A.heap[r]? = some o ∧ o.isCells = false) : CE g name field n ok B :=
  ⟨cell_kept h.1 hg hr, cell_kept h.2.1 hg hr, cell_kept h.2.2.1 hg hr, cell_kept h.2.2.2.1 hg hr, (frozen_kept h.2.2.1 hg hr).trans h.2.2.2.2.1, (frozen_kept h.2.2.2.1 hg hr).trans h.2.2.2.2.2⟩
theorem cell_b {A B : World} (hb : Below A.heap.size A B) {p : Addr} {v : Value} (h : A.cell? p = some v) : B.cell? p = some v := (hb.cell (World.block_lt_of_cell? _ _ h)).trans h
theorem froz_b {A B : World} (hb : Below A.heap.size A B) {p : Addr} {v : Value} (h : A.cell? p = some v) : B.frozen? p = A.frozen? p := hb.frozen (World.block_lt_of_cell? _ _ h)
theorem CE.below {g : Nat} {name field : ByteArray} {n : Int} {ok : Bool} {A B : World} (h : CE g name field n ok A) (hb : Below A.heap.size A B) : CE g name field n ok B :=
  ⟨cell_b hb h.1, cell_b hb h.2.1, cell_b hb h.2.2.1, cell_b hb h.2.2.2.1, (froz_b hb h.2.2.1).trans h.2.2.2.2.1, (froz_b hb h.2.2.2.1).trans h.2.2.2.2.2⟩
theorem CE.set {g : Nat} {name field : ByteArray} {n : Int} {ok : Bool} {A : World} (h : CE g name field n ok A) (n' : Int) (ok' : Bool) : CE g name field n' ok' ((A.setCell ⟨g + 1 + 1, 0, none⟩ (.int .i64 n')).setCell ⟨g + 1 + 1 + 1, 0, none⟩ (.bool ok')) := by
  obtain ⟨h0, h1, h2, h3, h4, h5⟩ := h
  refine ⟨?_, ?_, ?_, ?_, ?_, ?_⟩
  · rw [World.cell?_setCell_other _ _ _ _ (by simp), World.cell?_setCell_other _ _ _ _ (by simp)]; exact h0
  · rw [World.cell?_setCell_other _ _ _ _ (by simp), World.cell?_setCell_other _ _ _ _ (by simp)]; exact h1
  · rw [World.cell?_setCell_other _ _ _ _ (by simp)]
    exact World.cell?_setCell_same' _ _ _ (by rw [h2]; rfl)
  · exact World.cell?_setCell_same' _ _ _ (by rw [World.cell?_setCell_other _ _ _ _ (by simp), h3]; rfl)
  · rw [World.frozen?_setCell, World.frozen?_setCell]; exact h4
  · rw [World.frozen?_setCell, World.frozen?_setCell]; exact h5
theorem int_at' {W : World} {kd : IntKind} {ad : Addr} {n : Nat} {l : List Int} (h : Kd.C (Kd.int kd) W (some ad) n l) (k : Nat) (x : Int) (hx : l[k]? = some x) : W.cell? (ad.add k) = some (.int kd x) := by
  obtain ⟨hk, _⟩ := List.getElem?_eq_some_iff.1 hx
  obtain ⟨ad', e, hr⟩ := h.2.2 (by have := h.1; omega)
  have e' := Option.some.inj e
  subst e'
  obtain ⟨cs, hl, hK, hc⟩ := hr k x hx
  obtain rfl : cs = [.int kd x] := hK
  have a0 := hc 0 _ rfl
  have e1 : ad.add (k * (Kd.int kd).sz + 0) = ad.add k := by rw [show k * (Kd.int kd).sz + 0 = k from by rw [show (Kd.int kd).sz = 1 from rfl]; omega]
  rw [e1] at a0
  exact a0
theorem keepsFrom_below (B : Nat) {A C : World} (hb : Below A.heap.size A C) : KeepsFrom B A C := ⟨hb.size, fun k o _ hk _ => (hb.block k (by
  rcases Nat.lt_or_ge k A.heap.size with h | h
  · exact h
  · rw [Array.getElem?_eq_none h] at hk; cases hk)).trans hk⟩
set_option maxHeartbeats 2000000 in
set_option maxRecDepth 100000 in
theorem look_in {W : World} {A : Option Addr} {len c : Nat} {L : List S55} (hC : Kd.C k55 W A len L) (name field : ByteArray) :
    CallsIn Fence.wide 5 Tryd.prog 27 #[.slice A len c, .string name, .string field] W fun e W' => e = .returned (.tuple #[.int .i64 (lookF L name field).1, .bool (lookF L name field).2]) ∧ Below W.heap.size W W' := by
  refine callsIn_of_wp_marks Tryd.func27 rfl trivial ?_ rfl
  simp only [Tryd.ntmps27, List.size_toArray, List.length_cons, List.length_nil, Nat.reduceAdd, Nat.reduceSub, Array.replicate_succ, Array.replicate_zero, List.push_toArray, List.append_toArray, List.nil_append, List.cons_append]
  gi_wp2_with (first | (gi_at_call 42; refine (back_in _ _ _ _ _).mono ?_; rintro e w' ⟨rfl, rfl⟩) | (refine ⟨trivial, ?_⟩; gi_at_call 42; refine (back_in _ _ _ _ _).mono ?_; rintro e w' ⟨rfl, rfl⟩))
  have hB1 : Below W.heap.size W (((((W.alloc (.cells #[.string name] 9 (0, 0))).alloc (.cells #[.string field] 9 (0, 0))).alloc (.cells #[.int .i64 0] 2 (0, 0))).alloc (.cells #[.bool false] 4 (0, 0))).alloc (.cells #[.slice A len c] 34 (0, 0))) := below_alloc (below_alloc (below_alloc (below_alloc (below_alloc (Below.refl _ _) _) _) _) _) _
  have k0 : (((((W.alloc (.cells #[.string name] 9 (0, 0))).alloc (.cells #[.string field] 9 (0, 0))).alloc (.cells #[.int .i64 0] 2 (0, 0))).alloc (.cells #[.bool false] 4 (0, 0))).alloc (.cells #[.slice A len c] 34 (0, 0))).heap[W.heap.size]? = some (.cells #[.string name] 9 (0, 0)) := blk_alloc (blk_alloc (blk_alloc (blk_alloc (blk_new _ _) _) _) _) _
  have k1 : (((((W.alloc (.cells #[.string name] 9 (0, 0))).alloc (.cells #[.string field] 9 (0, 0))).alloc (.cells #[.int .i64 0] 2 (0, 0))).alloc (.cells #[.bool false] 4 (0, 0))).alloc (.cells #[.slice A len c] 34 (0, 0))).heap[W.heap.size + 1]? = some (.cells #[.string field] 9 (0, 0)) := blk_alloc (blk_alloc (blk_alloc (blk_new' (by simp)) _) _) _
  have k2 : (((((W.alloc (.cells #[.string name] 9 (0, 0))).alloc (.cells #[.string field] 9 (0, 0))).alloc (.cells #[.int .i64 0] 2 (0, 0))).alloc (.cells #[.bool false] 4 (0, 0))).alloc (.cells #[.slice A len c] 34 (0, 0))).heap[W.heap.size + 1 + 1]? = some (.cells #[.int .i64 0] 2 (0, 0)) := blk_alloc (blk_alloc (blk_new' (by simp)) _) _
  have k3 : (((((W.alloc (.cells #[.string name] 9 (0, 0))).alloc (.cells #[.string field] 9 (0, 0))).alloc (.cells #[.int .i64 0] 2 (0, 0))).alloc (.cells #[.bool false] 4 (0, 0))).alloc (.cells #[.slice A len c] 34 (0, 0))).heap[W.heap.size + 1 + 1 + 1]? = some (.cells #[.bool false] 4 (0, 0)) := blk_alloc (blk_new' (by simp)) _
  have k4 : (((((W.alloc (.cells #[.string name] 9 (0, 0))).alloc (.cells #[.string field] 9 (0, 0))).alloc (.cells #[.int .i64 0] 2 (0, 0))).alloc (.cells #[.bool false] 4 (0, 0))).alloc (.cells #[.slice A len c] 34 (0, 0))).heap[W.heap.size + 1 + 1 + 1 + 1]? = some (.cells #[.slice A len c] 34 (0, 0)) := blk_new' (by simp)
  generalize (((((W.alloc (.cells #[.string name] 9 (0, 0))).alloc (.cells #[.string field] 9 (0, 0))).alloc (.cells #[.int .i64 0] 2 (0, 0))).alloc (.cells #[.bool false] 4 (0, 0))).alloc (.cells #[.slice A len c] 34 (0, 0))) = w1 at *
  have hsz : W.heap.size + 1 + 1 + 1 + 1 < w1.heap.size := blk_lt k4
  have hCE : CE W.heap.size name field 0 false w1 := ⟨blk_cell k0 0, blk_cell k1 0, blk_cell k2 0, blk_cell k3 0, blk_frozen k2 0, blk_frozen k3 0⟩
  have k4 := blk_cell k4 0
  simp only [List.getElem?_toArray, List.getElem?_cons_zero] at k4
  clear k0 k1 k2 k3
  have hC1 := Kd.C_below hC hB1
  refine wpIn_rangeFunc_ownH rfl (by decide) (gf := 51) (lb := #[.pointer (some ⟨W.heap.size + 1 + 1 + 1 + 1, 0, none⟩)]) rfl trivial (enters_of Tryd.func51 (by kernel_rfl) rfl)
    (back_stops 4 (by decide) (W.heap.size + 1 + 1 + 1 + 1) hC1 k4) belowK_t (belowK_b (Nat.le_refl _)) (Below.refl _ _) (fun _ => rfl)
    (fun pre W' => ((∀ p ∈ pre, (p.1.nm.toList == name.toList) = false) ∧ CE W.heap.size name field 0 false W') ∧ Below w1.heap.size w1 W')
    (fun cc pre W' => (cc = .ret ∧ ∃ ini x y, pre = ini ++ [x] ∧ (∀ p ∈ ini, (p.1.nm.toList == name.toList) = false) ∧ (x.1.nm.toList == name.toList) = true ∧ L[x.1.i]? = some y ∧ CE W.heap.size name field (binF y field).1 (binF y field).2 W') ∧ Below W.heap.size W W')
    (OwnFrom.and (Own.from (fun s A B row hs hg hr => ⟨hs.1, hs.2.own hg hr⟩) _) (ownFrom_below (Nat.le_refl _) (Nat.le_refl _)))
    (fun cc => OwnFrom.and (Own.from (fun s A B row hs hg hr => by obtain ⟨e0, ini, x, y, e1, e2, e3, e4, e5⟩ := hs; exact ⟨e0, ini, x, y, e1, e2, e3, e4, e5.own hg hr⟩) _) (ownFrom_below (Nat.le_refl _) (by omega)))
    ⟨⟨by simp, hCE⟩, Below.refl _ _⟩
    (fun x a' W' => ∃ Bx, w1.heap.size ≤ Bx ∧ W'.cell? ⟨Bx, 0, none⟩ = some (.string x.1.nm) ∧ W'.cell? ⟨Bx, 1, none⟩ = some (.slice x.1.A1 x.1.n1 x.1.c1) ∧ W'.cell? ⟨Bx, 2, none⟩ = some (.slice x.1.A2 x.1.n2 x.1.c2) ∧ a' = { tmps := #[.slice A len c, .string name, .string field, undef, .pointer (some ⟨W.heap.size, 0, none⟩), .pointer (some ⟨W.heap.size + 1, 0, none⟩), .pointer (some ⟨W.heap.size + 1 + 1, 0, none⟩), .pointer (some ⟨W.heap.size + 1 + 1 + 1, 0, none⟩), undef, .pointer (some ⟨Bx, 0, none⟩), undef, .slice A len c, .func (.func 51) #[] #[.pointer (some ⟨W.heap.size + 1 + 1 + 1 + 1, 0, none⟩)], .int .i64 (x.1.i : Int), .agg #[.string x.1.nm, .slice x.1.A1 x.1.n1 x.1.c1, .slice x.1.A2 x.1.n2 x.1.c2], undef, undef, undef, undef, undef, undef, undef, undef, undef, undef, undef, undef, undef, undef, undef, undef, undef, undef, undef, undef, undef, undef], defers := [] })
    (fun x a' => Own.from (fun s A B row hs hg hr => by obtain ⟨Bx, e0, e1, e2, e3, e4⟩ := hs; exact ⟨Bx, e0, cell_kept e1 hg hr, cell_kept e2 hg hr, cell_kept e3 hg hr, e4⟩) _) ?assign ?body ?done ?stop
  case assign =>
    rintro l pre x W2 K ⟨⟨hp, hc⟩, hB⟩ hK
    unfold encB at *
    gi_wp2
    have kb := blk_new W2 (.cells #[.string x.1.nm, .slice x.1.A1 x.1.n1 x.1.c1, .slice x.1.A2 x.1.n2 x.1.c2] 55 (0, 0))
    have hW2 : Below W2.heap.size W2 (W2.alloc (.cells #[.string x.1.nm, .slice x.1.A1 x.1.n1 x.1.c1, .slice x.1.A2 x.1.n2 x.1.c2] 55 (0, 0))) := below_alloc (Below.refl _ _) _
    exact hK _ _ ((KeepsOthers.alloc _ _).from _) ((Below.refl _ W2).alloc hB.size _) ⟨⟨hp, hc.below hW2⟩, below_step hB hW2⟩ ⟨W2.heap.size, hB.size, blk_cell kb 0, blk_cell kb 1, blk_cell kb 2, rfl⟩
  case body =>
    rintro l pre x a' W2 hl ⟨r, hr⟩ ⟨⟨hp, hc⟩, hB⟩ ⟨Bx, hBx, e0, e1, e2, rfl⟩ hlt
    obtain ⟨y, hy, hn0, hn1, hl1, hs1, hn2, hl2, hv2⟩ := x.2
    have HN2 := Aside0.mk hn2
    clear hn0 hn1 hn2
    obtain ⟨q0, q1, q2, q3, f2, f3⟩ := hc
    have hc : CE W.heap.size name field 0 false W2 := ⟨q0, q1, q2, q3, f2, f3⟩
    cases hm : x.1.nm.toList == name.toList with
    | false =>
      gi_wp2
      exact ⟨KeepsFrom.refl _ _, Below.refl _ _, ⟨fun p hp' => (List.mem_append.1 hp').elim (hp p) (fun e => by simp at e; subst e; exact hm), hc⟩, hB⟩
    | true =>
      obtain ⟨ix, hix⟩ : ∃ ix, idxB (fun g => field.toList == g.toList) y.f1 0 = ix := ⟨_, rfl⟩
      have hr1 := (idxB_range (fun g => field.toList == g.toList) y.f1 0).1
      rw [hix] at hr1
      have HCL := Aside0.mk (sindex_c (Kd.C_below hs1 hB) hl1 (hs1.2.1) field ix hix)
      have HV := Aside0.mk (Kd.C_below hv2 hB)
      have HC := Aside0.mk hc
      have HP := Aside0.mk hp
      have HB2 := Aside0.mk (below_step hB1 hB)
      clear hs1 hv2 hc hp hB
      by_cases h1 : ix < 0
      · have HBF := Aside0.mk (show binF y field = (0, false) by unfold binF; rw [if_pos (by rw [hix]; exact .inl h1)])
        clear hix
        gi_wp2
        refine ⟨trivial, ?_⟩
        refine (CallsIn.inRound l (callsIn_wide.2 HCL.out)).mono ?_
        rintro e w3 ⟨rfl, hb⟩
        have hb3 := Aside0.mk hb
        have HC3 := Aside0.mk (HC.out.below hb)
        obtain ⟨q0', q1', q2', q3', f2', f3'⟩ := HC3.out
        have e0' := cell_b hb e0
        have e1' := cell_b hb e1
        have e2' := cell_b hb e2
        clear q0 q1 q2 q3 f2 f3 e0 e1 e2 hb
        gi_wp2
        all_goals (try (exfalso; omega))
        exact ⟨(keepsFrom_below _ hb3.out).trans (((KeepsOthers.setCell _ _ _).from _).trans ((KeepsOthers.setCell _ _ _).from _)), ⟨rfl, pre, x, y, rfl, HP.out, hm, hy, by rw [HBF.out]; exact HC3.out.set _ _⟩, below_set (below_set (below_step HB2.out hb3.out) (by omega)) (by omega)⟩
      · by_cases h2 : (y.f2.length : Int) ≤ ix
        · have HBF := Aside0.mk (show binF y field = (0, false) by unfold binF; rw [if_pos (by rw [hix]; exact .inr h2)])
          clear hix
          have h2' : (x.1.n2 : Int) ≤ ix := by rw [HN2.out]; exact h2
          gi_wp2
          refine ⟨trivial, ?_⟩
          refine (CallsIn.inRound l (callsIn_wide.2 HCL.out)).mono ?_
          rintro e w3 ⟨rfl, hb⟩
          have hb3 := Aside0.mk hb
          have HC3 := Aside0.mk (HC.out.below hb)
          obtain ⟨q0', q1', q2', q3', f2', f3'⟩ := HC3.out
          have e0' := cell_b hb e0
          have e1' := cell_b hb e1
          have e2' := cell_b hb e2
          clear q0 q1 q2 q3 f2 f3 e0 e1 e2 hb
          gi_wp2
          all_goals (try (exfalso; omega))
          exact ⟨(keepsFrom_below _ hb3.out).trans (((KeepsOthers.setCell _ _ _).from _).trans ((KeepsOthers.setCell _ _ _).from _)), ⟨rfl, pre, x, y, rfl, HP.out, hm, hy, by rw [HBF.out]; exact HC3.out.set _ _⟩, below_set (below_set (below_step HB2.out hb3.out) (by omega)) (by omega)⟩
        · obtain ⟨j, rfl⟩ : ∃ j : Nat, ix = (j : Int) := ⟨ix.toNat, by omega⟩
          have hj2 : j < y.f2.length := by omega
          have HBF := Aside0.mk (show binF y field = (y.f2[j], true) by unfold binF; rw [if_neg (by rw [hix]; omega), hix, Int.toNat_natCast, List.getD_eq_getElem?_getD, List.getElem?_eq_getElem hj2]; rfl)
          clear hix
          have h2' : (j : Int) < (x.1.n2 : Int) := by rw [HN2.out]; omega
          obtain ⟨ad2, ea2, _⟩ := HV.out.2.2 (by omega)
          have HV2 := Aside0.mk (show Kd.C (Kd.int .i64) W2 (some ad2) x.1.n2 y.f2 by rw [← ea2]; exact HV.out)
          have HD := Aside0.mk (int_at' HV2.out j y.f2[j] (List.getElem?_eq_getElem hj2))
          rw [ea2] at e2
          gi_wp2
          refine ⟨trivial, ?_⟩
          refine (CallsIn.inRound l (callsIn_wide.2 HCL.out)).mono ?_
          rintro e w3 ⟨rfl, hb⟩
          have hb3 := Aside0.mk hb
          have HC3 := Aside0.mk (HC.out.below hb)
          have d' := cell_b hb HD.out
          obtain ⟨q0', q1', q2', q3', f2', f3'⟩ := HC3.out
          have e0' := cell_b hb e0
          have e1' := cell_b hb e1
          have e2' := cell_b hb e2
          clear q0 q1 q2 q3 f2 f3 e0 e1 e2 hb
          gi_wp2
          all_goals (try (exfalso; omega))
          exact ⟨(keepsFrom_below _ hb3.out).trans (((KeepsOthers.setCell _ _ _).from _).trans ((KeepsOthers.setCell _ _ _).from _)), ⟨rfl, pre, x, y, rfl, HP.out, hm, hy, by rw [HBF.out]; exact HC3.out.set _ _⟩, below_set (below_set (below_step HB2.out hb3.out) (by omega)) (by omega)⟩
  case done =>
    rintro D ys W2 hD hS ⟨⟨hp, hc⟩, hB⟩ hK
    obtain ⟨q0, q1, q2, q3, f2, f3⟩ := hc
    have hc : CE W.heap.size name field 0 false W2 := ⟨q0, q1, q2, q3, f2, f3⟩
    gi_wp2
    have hK' := ((KeepsOthers.setCell W2 ⟨W.heap.size + 1 + 1, 0, none⟩ (.int .i64 0)).trans (KeepsOthers.setCell _ ⟨W.heap.size + 1 + 1 + 1, 0, none⟩ (.bool false))).same D _ hK rfl
    refine ⟨by simp, .inl ⟨_, _, rfl, run_takeDeferred hK', ?_⟩⟩
    obtain ⟨_, _, p2, p3, _, _⟩ := CE.own (hc.set 0 false) (grownBy_putObj' _ D (.deferred none)) (fun r e => by cases e; exact ⟨_, hK', rfl⟩)
    refine ⟨.tuple #[.int .i64 0, .bool false], ?_, by rw [look_none hS hp], (below_set (below_set (below_step hB1 hB) (by omega)) (by omega)).trans (belowK_b (w := W) (Nat.le_refl _) _ D _ _ (by omega) hK' rfl rfl)⟩
    simp [results, Tryd.f27, go_sem, p2, p3]
  case stop =>
    rintro D cc pre W2 hD ⟨m, hm, z, hz, rfl⟩ ⟨⟨rfl, ini, x, y, e1, e2, e3, e4, e5⟩, hB⟩ hK
    gi_wp2
    refine ⟨by simp, .inl ⟨_, _, rfl, run_takeDeferred hK, ?_⟩⟩
    obtain ⟨_, _, p2, p3, _, _⟩ := CE.own e5 (grownBy_putObj' _ D (.deferred none)) (fun r e => by cases e; exact ⟨_, hK, rfl⟩)
    refine ⟨.tuple #[.int .i64 (binF y field).1, .bool (binF y field).2], ?_, by rw [look_some hz hm e1 e2 e3 e4], hB.trans (belowK_b (w := W) (Nat.le_refl _) _ D _ _ (by omega) hK rfl rfl)⟩
    simp [results, Tryd.f27, go_sem, p2, p3]
theorem look_c {W : World} {A : Option Addr} {len c : Nat} {L : List S55} (hC : Kd.C k55 W A len L) (name field : ByteArray) (n : Int) (ok : Bool) (hn : lookF L name field = (n, ok)) :
    Calls Tryd.prog 27 #[.slice A len c, .string name, .string field] W fun e W' => e = .returned (.tuple #[.int .i64 n, .bool ok]) ∧ Below W.heap.size W W' := by
  have h := callsIn_wide.1 (look_in hC name field (c := c))
  rw [hn] at h
  exact h
end Go.Proofs.YtimmomhgljofnaaDoor.Hand
