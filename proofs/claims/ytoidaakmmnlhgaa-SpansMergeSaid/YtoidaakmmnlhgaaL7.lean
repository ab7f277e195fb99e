/- Joined: L1, L4, L5, L6. -/
import Derived.Test.YtoidaakmmnlhgaaKY
import Derived.Test.YtoidaakmmnlhgaaKA
import Derived.Test.YtoidaakmmnlhgaaO0
import Derived.Deep.RegionLaw
import Derived.Deep.DeepCutAuto
import Derived.Deep.CutBlock
/- Intervals: rows of numbers that are appended to; typed rows of intervals. -/
set_option linter.unusedVariables false
set_option linter.unusedSimpArgs false
namespace Go.Proofs.Ytoidaakmmnlhgaa.Hand
open Go.RowKit Go.Proofs.YtoidaakmmnlhgaaW.PrintWords Go.Proofs.YtoidaakmmnlhgaaW.PrintLast Go.Proofs.YtoidaakmmnlhgaaW.PrintMore
theorem int_at' {W : World} {kd : IntKind} {ad : Addr} {n : Nat} {l : List Int} (h : Kd.C (Kd.int kd) W (some ad) n l) (k : Nat) (x : Int) (hx : l[k]? = some x) : W.cell? (ad.add k) = some (.int kd x) := by
  obtain ⟨hk, _⟩ := List.getElem?_eq_some_iff.1 hx
  obtain ⟨ad', e, hr⟩ := h.2.2 (by have := h.1; omega)
  have e' := Option.some.inj e
  subst e'
  obtain ⟨cs, hl, hK, hc⟩ := hr k x hx
  obtain rfl : cs = [.int kd x] := hK
  have a0 := hc 0 _ rfl
  have e1 : ad.add (k * (Kd.int kd).sz + 0) = ad.add k := by rw [show k * (Kd.int kd).sz + 0 = k from by rw [show (Kd.int kd).sz = 1 from rfl]; omega]
  rw [e1] at a0
  exact a0
def ARow (W : World) (base : Nat) (v : Value) (xs : List Int) : Prop := Kd.R (Kd.int .i64) 2 W base (fun _ => True) v xs
theorem ARow.nil_ (W : World) (base : Nat) : ARow W base (.slice none 0 0) [] := Kd.R_nil (Kd.int .i64) _ _ _ _
theorem ARow.below {W W1 : World} {base : Nat} {v : Value} {xs : List Int} (h : ARow W base v xs) (hb : Below W.heap.size W W1) : ARow W1 base v xs := Kd.R_below h hb
theorem ARow.reads {W : World} {base : Nat} {v : Value} {xs : List Int} (h : ARow W base v xs) : ∃ A c, v = .slice A xs.length c ∧ xs.length ≤ c ∧ Kd.C (Kd.int .i64) W A xs.length xs := Kd.R_reads h
theorem ARow.C {W : World} {base n c : Nat} {A : Option Addr} {xs : List Int} (h : ARow W base (.slice A n c) xs) : Kd.C (Kd.int .i64) W A n xs ∧ n = xs.length := by
  obtain ⟨A', c', e, _, hC⟩ := h.reads
  injection e with e1 e2 e3
  rw [e1, e2]
  exact ⟨hC, rfl⟩
theorem ARow.put {W : World} {base b : Nat} {v : Value} {xs : List Int} {cells : Array Value} (h : ARow W base v xs) (hb : W.heap[b]? = some (.cells cells 24 (0, 0))) (u : Value) : ARow (W.setCell ⟨b, 0, none⟩ u) base v xs := Kd.R_set h hb (fun q hq => by
    have : q = 2 := by simpa [Kd.int, Kd.scalar] using hq
    rw [this]
    decide) 0 u
theorem infoI8 : (Try.prog.info? 2).map (fun i => (i.zero, i.size, i.bytes)) = some (some (.int .i64 0), 1, 8) := by kernel_rfl
theorem a_append {ops : Array Oper} {o : Oper} {rest : List Oper} {a : Act} {Q : Exit → Act → World → Prop} {w0 W : World} {z : Nat} (base : Nat) (hgd : o.guard = none) (s x : Operand)
    (ho : o.op = .call { callee := .builtin .append, args := #[s, x], argTypes := #[25, 25] }) (v : Value) (xs : List Int) (p : Int) (hs : a.eval s = v) (hx : a.eval x = .slice (some ⟨z, 0, none⟩) 1 1) (hz : W.heap.size = z)
    (HO : ARow W base v xs) (HB : Below base w0 W) (hbase : base ≤ W.heap.size) (hl : (xs.length + 1) * 8 ≤ 140737488355328)
    (h : ∀ v1 w1, ARow w1 base v1 (xs ++ [p]) → Below base w0 w1 → W.grownBy w1 v.ownBlock → wpList Try.prog ops Q rest (a.put o.dst v1) w1) :
    wpList Try.prog ops Q (o :: rest) a (W.alloc (.cells #[.int .i64 p] 2)) := by
  subst hz
  exact Kd.R_append (Kd.int .i64) base hgd s x 25 2 (.int .i64 0) 8 ho Try.underlying25 infoI8 rfl (by decide) (by decide) v xs p [.int .i64 p] (fun _ => True) (fun _ => False) hs hx rfl (fun _ hk => hk.elim) (fun _ _ => trivial) HO HB hbase hl (fun v1 w1 r1 b1 g1 _ => h v1 w1 r1 b1 g1)
/-- A row of intervals: none, or in a block of its own. -/
def TyI (W : World) (A : Option Addr) (n c : Nat) (L : List Iv) : Prop := (A = none ∧ n = 0 ∧ L = []) ∨ ∃ g, A = some ⟨g, 0, none⟩ ∧ n = L.length ∧ RowI W g c L
section
variable {W W1 : World} {A : Option Addr} {n c : Nat} {L : List Iv}
theorem TyI.C (h : TyI W A n c L) : Kd.C kI W A n L := by
  rcases h with ⟨rfl, rfl, rfl⟩ | ⟨g, rfl, rfl, h⟩
  · exact ⟨rfl, by omega, fun h => absurd h (by omega)⟩
  · exact h.C
theorem TyI.cap (h : TyI W A n c L) : n ≤ c := by
  rcases h with ⟨rfl, rfl, rfl⟩ | ⟨g, rfl, rfl, h⟩
  · omega
  · exact h.cap
theorem TyI.below (h : TyI W A n c L) (hb : Below W.heap.size W W1) : TyI W1 A n c L := by
  rcases h with h | ⟨g, rfl, rfl, h⟩
  · exact .inl h
  · exact .inr ⟨g, rfl, rfl, h.below hb⟩
theorem TyI.put (h : TyI W A n c L) {b : Nat} {cells : Array Value} (hb : W.heap[b]? = some (.cells cells 24 (0, 0))) (u : Value) : TyI (W.setCell ⟨b, 0, none⟩ u) A n c L := by
  rcases h with h | ⟨g, rfl, rfl, h⟩
  · exact .inl h
  · refine .inr ⟨g, rfl, rfl, h.far ?_ u⟩
    obtain ⟨cur, hg, _⟩ := h
    exact blk_ne hg hb (by decide)
theorem TyI.grown (h : TyI W A n c L) {base : Nat} {v : Value} {xs : List Int} (hR : ARow W base v xs) (hg : W.grownBy W1 v.ownBlock) : TyI W1 A n c L := by
  rcases h with h | ⟨g, rfl, rfl, h⟩
  · exact .inl h
  · obtain ⟨cur, hb, hx⟩ := h
    exact .inr ⟨g, rfl, rfl, ⟨cur, blk_grown hb hg (Kd.R_ne hR hb (by decide)), hx⟩⟩
theorem add_t (h : TyI W A n c L) (hlm : n ≤ 140737488351232) (x : Int) (M : List Iv) (hM : addL L x = M) :
    Calls Try.prog 11 #[.agg #[.slice A n c], .int .i64 x] W fun e w' => ∃ A' n' c', e = .returned (.agg #[.slice A' n' c']) ∧ TyI w' A' n' c' M ∧ n' ≤ max n 4 ∧ Below W.heap.size W w' := by
  have hl := addL_len L x
  rw [hM, h.C.1] at hl
  refine (add_sc h.C h.cap hlm x M hM).mono ?_
  rintro e w1 ⟨A', c', rfl, hC, h2, h3, hb⟩
  refine ⟨A', M.length, c', rfl, ?_, hl, hb⟩
  rcases h3 with ⟨rfl, rfl, rfl⟩ | ⟨g, rfl, h3⟩
  · rw [h.C.1]
    exact h.below hb
  · exact .inr ⟨g, rfl, rfl, h3⟩
end
theorem adds_snoc (xs : List Int) (q : Int) : adds [] (xs ++ [q]) = addL (adds [] xs) q := by
  unfold adds
  rw [List.foldl_append]
  rfl
theorem ks_u8 {n : Int} (h : (Lit.int .u8 n).wf = true) : 0 ≤ n := by
  simp [Lit.wf, IntKind.min, IntKind.max, IntKind.signed, IntKind.bits] at h
  omega
end Go.Proofs.Ytoidaakmmnlhgaa.Hand

/- Intervals: SpansMerge's plain law (five numbers apart, in the order 0 3 1 4 2). -/
set_option linter.unusedVariables false
set_option linter.unusedSimpArgs false
namespace Go.Proofs.Ytoidaakmmnlhgaa.Hand
open Go.Lib Go.Shelf Go.RowKit Go.Proofs.YtoidaakmmnlhgaaW.PrintWords Go.Proofs.YtoidaakmmnlhgaaW.PrintLast Go.Proofs.YtoidaakmmnlhgaaW.PrintMore
theorem hasL_not {L : List Iv} {x : Int} (h : ∀ y ∈ L, x < y.1 ∨ y.2 < x) : hasL L x = false := by
  rw [← Bool.not_eq_true, hasL_iff]
  rintro ⟨y, hy, h1, h2⟩
  rcases h y hy with h | h <;> omega
theorem add_point {L : List Iv} {x : Int} (hr : rightL L = true) (h : ∀ y ∈ L, x < y.1 ∨ y.2 < x) : addL L x = if (addM L x).length ≤ 4 then addM L x else mergeI (addM L x) (leastN (addM L x) 5) := by
  unfold addL
  rw [if_neg (by rw [hr, hasL_not h]; simp)]
theorem addM_two (a b : Int) (h : a < b) : addM [(a, a)] b = [(a, a), (b, b)] := by
  simp [addM, atI, idxB, gtB, insI, show ¬b < a by omega]
theorem addM_three (a b c : Int) (h : a < b) (h2 : b < c) : addM [(a, a), (c, c)] b = [(a, a), (b, b), (c, c)] := by
  simp [addM, atI, idxB, gtB, insI, show ¬b < a by omega, h2]
theorem addM_four (a b c d : Int) (h : a < b) (h2 : b < c) (h3 : c < d) : addM [(a, a), (b, b), (c, c)] d = [(a, a), (b, b), (c, c), (d, d)] := by
  simp [addM, atI, idxB, gtB, insI, show ¬d < a by omega, show ¬d < b by omega, show ¬d < c by omega]
theorem addM_five (a b c d e : Int) (h : a < b) (h2 : b < c) (h3 : c < d) (h4 : d < e) : addM [(a, a), (b, b), (d, d), (e, e)] c = [(a, a), (b, b), (c, c), (d, d), (e, e)] := by
  simp [addM, atI, idxB, gtB, insI, show ¬c < a by omega, show ¬c < b by omega, h3]
theorem gapU_small {x y : Iv} (h : x.2 ≤ y.1) (h2 : y.1 < x.2 + 10000) : gapU x y = y.1 - x.2 := by
  unfold gapU
  exact Int.emod_eq_of_lt (by omega) (by omega)
set_option maxHeartbeats 1000000 in
theorem merge_law (a b c d e : Int) (h0 : -1 ≤ a) (g1 : a + 2 ≤ b) (g2 : b + 2 ≤ c) (g3 : c + 2 ≤ d) (g4 : d + 2 ≤ e) (he : e ≤ 2000) :
    (adds [] [a, d, b, e, c] = [(a, b), (c, c), (d, d), (e, e)] ∧ b - a ≤ c - b ∧ b - a ≤ d - c ∧ b - a ≤ e - d) ∨
    (adds [] [a, d, b, e, c] = [(a, a), (b, c), (d, d), (e, e)] ∧ c - b ≤ b - a ∧ c - b ≤ d - c ∧ c - b ≤ e - d) ∨
    (adds [] [a, d, b, e, c] = [(a, a), (b, b), (c, d), (e, e)] ∧ d - c ≤ b - a ∧ d - c ≤ c - b ∧ d - c ≤ e - d) ∨
    (adds [] [a, d, b, e, c] = [(a, a), (b, b), (c, c), (d, e)] ∧ e - d ≤ b - a ∧ e - d ≤ c - b ∧ e - d ≤ d - c) := by
  have s1 : addL [] a = [(a, a)] := addL_nil a
  have r1 : rightL [(a, a)] = true := s1 ▸ (addL_all (L := []) rfl a).1
  have s2 : addL [(a, a)] d = [(a, a), (d, d)] := by
    rw [add_point r1 (by simp; omega), addM_two a d (by omega)]
    rfl
  have r2 : rightL [(a, a), (d, d)] = true := s2 ▸ (addL_all r1 d).1
  have s3 : addL [(a, a), (d, d)] b = [(a, a), (b, b), (d, d)] := by
    rw [add_point r2 (by simp; omega), addM_three a b d (by omega) (by omega)]
    rfl
  have r3 : rightL [(a, a), (b, b), (d, d)] = true := s3 ▸ (addL_all r2 b).1
  have s4 : addL [(a, a), (b, b), (d, d)] e = [(a, a), (b, b), (d, d), (e, e)] := by
    rw [add_point r3 (by simp; omega), addM_four a b d e (by omega) (by omega) (by omega)]
    rfl
  have r4 : rightL [(a, a), (b, b), (d, d), (e, e)] = true := s4 ▸ (addL_all r3 e).1
  have s5 : adds [] [a, d, b, e, c] = mergeI [(a, a), (b, b), (c, c), (d, d), (e, e)] (leastN [(a, a), (b, b), (c, c), (d, d), (e, e)] 5) := by
    unfold adds
    simp only [List.foldl_cons, List.foldl_nil]
    rw [s1, s2, s3, s4, add_point r4 (by simp; omega), addM_five a b c d e (by omega) (by omega) (by omega) (by omega), if_neg (by simp)]
  rw [s5]
  clear s1 s2 s3 s4 s5 r1 r2 r3 r4
  have t1 : gapAt [(a, a), (b, b), (c, c), (d, d), (e, e)] 1 = b - a := gapU_small (x := (a, a)) (y := (b, b)) (by simp; omega) (by simp; omega)
  have t2 : gapAt [(a, a), (b, b), (c, c), (d, d), (e, e)] 2 = c - b := gapU_small (x := (b, b)) (y := (c, c)) (by simp; omega) (by simp; omega)
  have t3 : gapAt [(a, a), (b, b), (c, c), (d, d), (e, e)] 3 = d - c := gapU_small (x := (c, c)) (y := (d, d)) (by simp; omega) (by simp; omega)
  have t4 : gapAt [(a, a), (b, b), (c, c), (d, d), (e, e)] 4 = e - d := gapU_small (x := (d, d)) (y := (e, e)) (by simp; omega) (by simp; omega)
  generalize hM : [(a, a), (b, b), (c, c), (d, d), (e, e)] = M at *
  have l1 : leastN M 2 = 1 := by simp [leastN]
  obtain ⟨m2, q2, b2⟩ : ∃ m, leastN M 3 = m ∧ ((m = 1 ∧ b - a ≤ c - b) ∨ (m = 2 ∧ c - b < b - a)) := by
    refine ⟨_, rfl, ?_⟩
    rw [show leastN M 3 = if 1 < 2 ∧ gapAt M 2 < gapAt M (leastN M 2) then 2 else leastN M 2 from rfl, l1, t1, t2]
    split <;> omega
  obtain ⟨m3, q3, b3⟩ : ∃ m, leastN M 4 = m ∧ ((m = 1 ∧ b - a ≤ c - b ∧ b - a ≤ d - c) ∨ (m = 2 ∧ c - b < b - a ∧ c - b ≤ d - c) ∨ (m = 3 ∧ d - c < b - a ∧ d - c < c - b)) := by
    refine ⟨_, rfl, ?_⟩
    rw [show leastN M 4 = if 1 < 3 ∧ gapAt M 3 < gapAt M (leastN M 3) then 3 else leastN M 3 from rfl, q2, t3]
    rcases b2 with ⟨rfl, h⟩ | ⟨rfl, h⟩
    · rw [t1]; split <;> omega
    · rw [t2]; split <;> omega
  rw [show leastN M 5 = if 1 < 4 ∧ gapAt M 4 < gapAt M (leastN M 4) then 4 else leastN M 4 from rfl, q3, t4]
  subst hM
  have k1 : mergeI [(a, a), (b, b), (c, c), (d, d), (e, e)] 1 = [(a, b), (c, c), (d, d), (e, e)] := rfl
  have k2 : mergeI [(a, a), (b, b), (c, c), (d, d), (e, e)] 2 = [(a, a), (b, c), (d, d), (e, e)] := rfl
  have k3 : mergeI [(a, a), (b, b), (c, c), (d, d), (e, e)] 3 = [(a, a), (b, b), (c, d), (e, e)] := rfl
  have k4 : mergeI [(a, a), (b, b), (c, c), (d, d), (e, e)] 4 = [(a, a), (b, b), (c, c), (d, e)] := rfl
  rcases b3 with ⟨rfl, h, h'⟩ | ⟨rfl, h, h'⟩ | ⟨rfl, h, h'⟩
  · rw [t1]
    split
    · rw [k4]; exact .inr (.inr (.inr ⟨rfl, by omega, by omega, by omega⟩))
    · rw [k1]; exact .inl ⟨rfl, by omega, by omega, by omega⟩
  · rw [t2]
    split
    · rw [k4]; exact .inr (.inr (.inr ⟨rfl, by omega, by omega, by omega⟩))
    · rw [k2]; exact .inr (.inl ⟨rfl, by omega, by omega, by omega⟩)
  · rw [t3]
    split
    · rw [k4]; exact .inr (.inr (.inr ⟨rfl, by omega, by omega, by omega⟩))
    · rw [k3]; exact .inr (.inr (.inl ⟨rfl, by omega, by omega, by omega⟩))
end Go.Proofs.Ytoidaakmmnlhgaa.Hand

/- Intervals: merged. -/
set_option linter.unusedVariables false
set_option linter.unusedSimpArgs false
namespace Go.Proofs.Ytoidaakmmnlhgaa.Hand
open Go.RowKit Go.Proofs.YtoidaakmmnlhgaaW.PrintWords Go.Proofs.YtoidaakmmnlhgaaW.PrintLast Go.Proofs.YtoidaakmmnlhgaaW.PrintMore
/-- How many are no points. -/
def onesL (L : List Iv) : Nat := L.countP (fun y => decide (y.1 ≠ y.2))
theorem ones_step {L : List Iv} {i : Nat} {y : Iv} (hy : L[i]? = some y) : onesL (L.take (i + 1)) = onesL (L.take i) + if y.1 = y.2 then 0 else 1 := by
  unfold onesL
  rw [List.take_add_one, hy, List.countP_append]
  by_cases h : y.1 = y.2 <;> simp [h]
set_option maxHeartbeats 4000000 in
set_option maxRecDepth 100000 in
theorem merged_c {W : World} {A B : Option Addr} {m e n c : Nat} {L : List Iv} {l : List Int} (hr : Kd.C kI W A m L) (hl : Kd.C (Kd.int .i64) W B n l) (he : m ≤ e) (hnc : n ≤ c) (hm : m ≤ 4) (hn1 : 1 ≤ n) (hn : n ≤ 1000) (hb : ∀ x ∈ l, -1 ≤ x ∧ x ≤ 2000) (hL : ∀ y ∈ L, -1 ≤ y.1 ∧ y.1 ≤ y.2 ∧ y.2 ≤ 2000) (good : ∀ y ∈ L, y.1 ≠ y.2 → ∀ k p q, l[k]? = some p → l[k + 1]? = some q → (p = y.1 → q = y.2) ∧ y.2 - y.1 ≤ q - p) (hone : onesL L = 1) (hcov : coverL L l = true) :
    Calls Try.prog 24 #[.agg #[.slice A m e], .slice B n c] W fun e w' => e = .returned (.bool true) ∧ Below W.heap.size W w' := by
  have HB := Aside0.mk (Below.refl W.heap.size W)
  have HL := Aside0.mk (Below.refl W.heap.size W)
  have HR := Aside0.mk hr
  have HLR := Aside0.mk hl
  have HG := Aside0.mk good
  have HO := Aside0.mk hone
  have HCV := Aside0.mk hcov
  have HBN := Aside0.mk hb
  have HBL := Aside0.mk hL
  clear hr hl good hone hcov hb hL
  go_enter Try.func24, Try.ntmps24
  go_wp2
  go_loopw [5, 6] (fun v5 v6 wr => ∃ i : Nat, v6 = .int .i64 (i : Int) ∧ i ≤ m ∧ v5 = .int .i64 ((onesL (L.take i) : Nat) : Int) ∧ Aside0 (Below W.heap.size W wr) ∧ Aside0 (wr.heap[W.heap.size]? = some (.cells #[.slice A m e] 24 (0, 0)))) (fun _ v _ => m - (intOf v).toNat)
  case atStart => exact ⟨0, rfl, by omega, rfl, ⟨(by repeat (first | (with_reducible first | exact HB.out | apply below_alloc | apply pw_below_drewN | apply below_drew1) | exact HB.out))⟩, ⟨(by repeat (first | exact blk_new' (by first | rfl | simp) | (with_reducible refine blk_drewN ?_ _) | (with_reducible refine blk_drew ?_) | (with_reducible refine blk_alloc ?_ _)))⟩⟩
  case round =>
    clear HB HL
    obtain ⟨i, rfl, hi, rfl, HB, BS⟩ := hrel
    have qBS_0 := blk_cell BS.out 0
    have lBS := blk_lt BS.out
    simp only [List.getElem?_toArray, List.getElem?_cons_zero, List.getElem?_cons_succ] at qBS_0
    have fBS := blk_frozen BS.out 0
    have HL := Aside0.mk (Below.refl wr.heap.size wr)
    by_cases hlt : i < m
    · obtain ⟨ad1, ea1, _⟩ := HR.out.2.2 (by omega)
      subst ea1
      obtain ⟨⟨y1, y2⟩, hyk⟩ : ∃ y, L[i]? = some y := ⟨L[i]'(by rw [HR.out.1]; exact hlt), List.getElem?_eq_getElem _⟩
      obtain ⟨z0, z1⟩ := iv_at (Kd.C_below HR.out HB.out) i _ hyk
      simp only at z0 z1
      have hst := ones_step hyk
      have HYK := Aside0.mk hyk
      have hol : onesL (L.take i) ≤ 4 := Nat.le_trans (List.countP_le_length) (by rw [List.length_take, HR.out.1]; omega)
      obtain ⟨oi, hoi⟩ : ∃ o, onesL (L.take i) = o := ⟨_, rfl⟩
      rw [hoi] at hst hol ⊢
      have him : (i : Int) < (m : Int) := by omega
      by_cases hy : y1 = y2
      · have HST := Aside0.mk (show onesL (L.take (i + 1)) = oi by rw [hst, if_pos hy]; rfl)
        clear hst hyk hoi
        subst hy
        go_wp2
        all_goals (try (exfalso; omega))
        all_goals go_roundw
        all_goals (try (case rel => first | exact ⟨i + 1, by go_num, by omega, by rw [HST.out], ⟨(by repeat (first | (with_reducible first | exact HB.out | apply below_alloc | apply pw_below_drewN | apply below_drew1) | exact HB.out))⟩, ⟨(by repeat (first | exact BS.out | (with_reducible refine blk_drewN ?_ _) | (with_reducible refine blk_drew ?_)))⟩⟩ | ((repeat apply Exists.intro); exact ⟨⟨i + 1, by go_num, by omega, by rw [HST.out], ⟨(by repeat (first | (with_reducible first | exact HB.out | apply below_alloc | apply pw_below_drewN | apply below_drew1) | exact HB.out))⟩, ⟨(by repeat (first | exact BS.out | (with_reducible refine blk_drewN ?_ _) | (with_reducible refine blk_drew ?_)))⟩⟩, rfl⟩)))
        all_goals (try (case measure => (simp [intOf] <;> omega)))
      · have HST := Aside0.mk (show onesL (L.take (i + 1)) = oi + 1 by rw [hst, if_neg hy])
        clear hst hyk hoi
        go_wp2
        go_loopw [9] (fun v9 wr => ∃ k : Nat, v9 = .int .i64 ((k : Int) + 1) ∧ k + 1 ≤ n ∧ Aside0 (Below W.heap.size W wr) ∧ Aside0 (wr.heap[W.heap.size]? = some (.cells #[.slice (some ad1) m e] 24 (0, 0)))) (fun v _ => n - (intOf v).toNat)
        case atStart => exact ⟨0, rfl, by omega, ⟨(by repeat (first | (with_reducible first | exact HB.out | apply below_alloc | apply pw_below_drewN | apply below_drew1) | exact HB.out))⟩, ⟨(by repeat (first | exact BS.out | (with_reducible refine blk_drewN ?_ _) | (with_reducible refine blk_drew ?_)))⟩⟩
        case round =>
          clear HB HL BS qBS_0 lBS fBS z0 z1
          obtain ⟨k, rfl, hk, HB, BS⟩ := hrel
          have qBS_0 := blk_cell BS.out 0
          have lBS := blk_lt BS.out
          simp only [List.getElem?_toArray, List.getElem?_cons_zero, List.getElem?_cons_succ] at qBS_0
          have fBS := blk_frozen BS.out 0
          have HL := Aside0.mk (Below.refl wr.heap.size wr)
          by_cases hlt2 : k + 1 < n
          · obtain ⟨ad, ea, _⟩ := HLR.out.2.2 (by omega)
            subst ea
            obtain ⟨p, hp⟩ : ∃ p, l[k]? = some p := ⟨l[k]'(by rw [HLR.out.1]; omega), List.getElem?_eq_getElem _⟩
            obtain ⟨q, hq⟩ : ∃ q, l[k + 1]? = some q := ⟨l[k + 1]'(by rw [HLR.out.1]; exact hlt2), List.getElem?_eq_getElem _⟩
            have d0 := int_at' (Kd.C_below HLR.out HB.out) k p hp
            have e0 := int_at' (Kd.C_below HLR.out HB.out) (k + 1) q hq
            have e0 : wr.cell? ⟨ad.block, ad.off + (k + 1), none⟩ = some (.int .i64 q) := e0
            obtain ⟨pk, hpk⟩ : ∃ pk, ad.add k = pk := ⟨_, rfl⟩
            rw [hpk] at d0
            obtain ⟨gd1, gd2⟩ := HG.out _ (List.mem_of_getElem? HYK.out) hy k p q hp hq
            have bp := HBN.out p (List.mem_of_getElem? hp)
            have bq := HBN.out q (List.mem_of_getElem? hq)
            have by_ := HBL.out _ (List.mem_of_getElem? HYK.out)
            simp only at gd1 gd2 by_
            obtain ⟨dq, edq⟩ : ∃ d, wrap64 (q - p) = d := ⟨_, rfl⟩
            obtain ⟨dy, edy⟩ : ∃ d, wrap64 (y2 - y1) = d := ⟨_, rfl⟩
            have hdd : dy ≤ dq := by
              rw [← edq, ← edy]
              unfold wrap64
              omega
            clear gd2 bp bq by_ hp hq
            have hj0 : (0 : Int) ≤ (k : Int) + 1 := by omega
            have hjn : (k : Int) + 1 < (n : Int) := by omega
            have hjk : (k : Int) < (n : Int) := by omega
            have hw2 : wrap64 (k : Int) = (k : Int) := by unfold wrap64; omega
            have hw1 : IntKind.i64.wrap (k : Int) = (k : Int) := by rw [i64_w]; exact hw2
            by_cases hpy : p = y1
            · obtain rfl : q = y2 := gd1 hpy
              subst hpy
              clear gd1
              go_upto_region 14 with fail
              refine start_ (n := 14) (S := fun w' => w'.cell? ⟨ad.block, ad.off + (k + 1), none⟩ = some (.int .i64 q) ∧ w'.cell? pk = some (.int .i64 p)) (ds := []) #[false, false, false, false, false, false, false, false, false, false, false, false, false, false] (by kernel_rfl) rfl rfl ⟨e0, d0⟩ (fun hHeld => ?_)
              refine pure_ (i := 0) (N := some 55) (v := ?_) (a' := ?_) #[true, false, false, false, false, false, false, false, false, false, false, false, false, false] rfl rfl (by kernel_rfl) (fun _ _ _ h => h) (Or.inl ⟨by rfl, ?_⟩) ?_ ?_
              rotate_left
              · intro w'
                go_simp
                with_reducible rfl
              rotate_left
              · simp only [Act.put, List.setIfInBounds_toArray, List.set_cons_zero, List.set_cons_succ, i64_w, i32_w]
                rfl
              refine pure_ (i := 1) (N := some 56) (v := ?_) (a' := ?_) #[true, true, false, false, false, false, false, false, false, false, false, false, false, false] rfl rfl (by kernel_rfl) (fun _ _ _ h => h) (Or.inl ⟨by rfl, ?_⟩) ?_ ?_
              rotate_left
              · intro w'
                go_simp
                with_reducible rfl
              rotate_left
              · simp only [Act.put, List.setIfInBounds_toArray, List.set_cons_zero, List.set_cons_succ, i64_w, i32_w]
                rfl
              refine pure_ (i := 2) (N := some 57) (v := ?_) (a' := ?_) #[true, true, true, false, false, false, false, false, false, false, false, false, false, false] rfl rfl (by kernel_rfl) (fun _ _ _ h => h) (Or.inl ⟨by rfl, ?_⟩) ?_ ?_
              rotate_left
              · intro w'
                go_simp
                with_reducible rfl
              rotate_left
              · simp only [Act.put, List.setIfInBounds_toArray, List.set_cons_zero, List.set_cons_succ, i64_w, i32_w]
                rfl
              refine pure_ (i := 4) (N := some 59) (v := ?_) (a' := ?_) #[true, true, true, false, true, false, false, false, false, false, false, false, false, false] rfl rfl (by kernel_rfl) (fun _ _ _ h => h) (Or.inl ⟨by rfl, ?_⟩) ?_ ?_
              rotate_left
              · intro w'
                go_simp
                with_reducible rfl
              rotate_left
              · simp only [Act.put, List.setIfInBounds_toArray, List.set_cons_zero, List.set_cons_succ, i64_w, i32_w]
                rfl
              refine pure_ (i := 5) (N := some 60) (v := ?_) (a' := ?_) #[true, true, true, false, true, true, false, false, false, false, false, false, false, false] rfl rfl (by kernel_rfl) (fun _ _ _ h => h) (Or.inl ⟨by rfl, ?_⟩) ?_ ?_
              rotate_left
              · intro w'
                go_simp
                with_reducible rfl
              rotate_left
              · simp only [Act.put, List.setIfInBounds_toArray, List.set_cons_zero, List.set_cons_succ, i64_w, i32_w]
                rfl
              refine pure_ (i := 6) (N := some 61) (v := ?_) (a' := ?_) #[true, true, true, false, true, true, true, false, false, false, false, false, false, false] rfl rfl (by kernel_rfl) (fun _ _ _ h => h) (Or.inl ⟨by rfl, ?_⟩) ?_ ?_
              rotate_left
              · intro w'
                go_simp
                with_reducible rfl
              rotate_left
              · simp only [Act.put, List.setIfInBounds_toArray, List.set_cons_zero, List.set_cons_succ, i64_w, i32_w]
                rfl
              refine pure_ (i := 7) (N := some 62) (v := ?_) (a' := ?_) #[true, true, true, false, true, true, true, true, false, false, false, false, false, false] rfl rfl (by kernel_rfl) (fun _ _ _ h => h) (Or.inl ⟨by rfl, ?_⟩) ?_ ?_
              rotate_left
              · intro w'
                go_simp
                with_reducible rfl
              rotate_left
              · simp only [Act.put, List.setIfInBounds_toArray, List.set_cons_zero, List.set_cons_succ, i64_w, i32_w]
                rfl
              refine pure_ (i := 10) (N := some 65) (v := ?_) (a' := ?_) #[true, true, true, false, true, true, true, true, false, false, true, false, false, false] rfl rfl (by kernel_rfl) (fun _ _ _ h => h) (Or.inl ⟨by rfl, ?_⟩) ?_ ?_
              rotate_left
              · intro w'
                go_simp
                with_reducible rfl
              rotate_left
              · simp only [Act.put, List.setIfInBounds_toArray, List.set_cons_zero, List.set_cons_succ, i64_w, i32_w]
                rfl
              refine pure_ (i := 11) (N := some 66) (v := ?_) (a' := ?_) #[true, true, true, false, true, true, true, true, false, false, true, true, false, false] rfl rfl (by kernel_rfl) (fun _ _ _ h => h) (Or.inl ⟨by rfl, ?_⟩) ?_ ?_
              rotate_left
              · intro w'
                go_simp
                with_reducible rfl
              rotate_left
              · simp only [Act.put, List.setIfInBounds_toArray, List.set_cons_zero, List.set_cons_succ, i64_w, i32_w]
                rfl
              refine pure_ (i := 12) (N := some 67) (v := ?_) (a' := ?_) #[true, true, true, false, true, true, true, true, false, false, true, true, true, false] rfl rfl (by kernel_rfl) (fun _ _ _ h => h) (Or.inl ⟨by rfl, ?_⟩) ?_ ?_
              rotate_left
              · intro w'
                go_simp
                with_reducible rfl
              rotate_left
              · simp only [Act.put, List.setIfInBounds_toArray, List.set_cons_zero, List.set_cons_succ, i64_w, i32_w]
                rfl
              refine take_ (i := 3) (N := some 58) (v := ?_) (a' := ?_) #[true, true, true, true, true, true, true, true, false, false, true, true, true, false] rfl rfl (by kernel_rfl) (fun _ _ _ h => h) (Or.inl ⟨by rfl, ?_⟩) hHeld ?_ ?_
              rotate_left
              · rintro w' ⟨s0, s1⟩
                go_simp
                with_reducible rfl
              rotate_left
              · simp only [Act.put, List.setIfInBounds_toArray, List.set_cons_zero, List.set_cons_succ, i64_w, i32_w]
                rfl
              refine take_ (i := 8) (N := some 63) (v := ?_) (a' := ?_) #[true, true, true, true, true, true, true, true, true, false, true, true, true, false] rfl rfl (by kernel_rfl) (fun _ _ _ h => h) (Or.inl ⟨by rfl, ?_⟩) hHeld ?_ ?_
              rotate_left
              · rintro w' ⟨s0, s1⟩
                go_simp
                with_reducible rfl
              rotate_left
              · simp only [Act.put, List.setIfInBounds_toArray, List.set_cons_zero, List.set_cons_succ, i64_w, i32_w]
                rfl
              refine pure_ (i := 9) (N := some 64) (v := ?_) (a' := ?_) #[true, true, true, true, true, true, true, true, true, true, true, true, true, false] rfl rfl (by kernel_rfl) (fun _ _ _ h => h) (Or.inl ⟨by rfl, ?_⟩) ?_ ?_
              rotate_left
              · intro w'
                go_simp
                with_reducible rfl
              rotate_left
              · simp only [Act.put, List.setIfInBounds_toArray, List.set_cons_zero, List.set_cons_succ, i64_w, i32_w]
                rfl
              refine pure_ (i := 13) (N := some 68) (v := ?_) (a' := ?_) #[true, true, true, true, true, true, true, true, true, true, true, true, true, true] rfl rfl (by kernel_rfl) (fun _ _ _ h => h) (Or.inl ⟨by rfl, ?_⟩) ?_ ?_
              rotate_left
              · intro w'
                go_simp
                with_reducible rfl
              rotate_left
              · simp only [Act.put, List.setIfInBounds_toArray, List.set_cons_zero, List.set_cons_succ, i64_w, i32_w]
                rfl
              refine done_ (by kernel_rfl) ?_
              clear hw1 hw2 edq edy d0 e0 hpk
              have hdn : ¬dq < dy := by omega
              go_wp2
              all_goals (try (exfalso; omega))
              all_goals go_roundw
              all_goals (try (case rel => first | exact ⟨k + 1, by go_num, by omega, ⟨(by repeat (first | (with_reducible first | exact HB.out | apply below_alloc | apply pw_below_drewN | apply below_drew1) | exact HB.out))⟩, ⟨(by repeat (first | exact BS.out | (with_reducible refine blk_drewN ?_ _) | (with_reducible refine blk_drew ?_)))⟩⟩ | ((repeat apply Exists.intro); exact ⟨⟨k + 1, by go_num, by omega, ⟨(by repeat (first | (with_reducible first | exact HB.out | apply below_alloc | apply pw_below_drewN | apply below_drew1) | exact HB.out))⟩, ⟨(by repeat (first | exact BS.out | (with_reducible refine blk_drewN ?_ _) | (with_reducible refine blk_drew ?_)))⟩⟩, rfl⟩)))
              all_goals (try (case measure => (simp [intOf] <;> omega)))
            · clear gd1
              go_upto_region 14 with fail
              refine start_ (n := 14) (S := fun w' => w'.cell? ⟨ad.block, ad.off + (k + 1), none⟩ = some (.int .i64 q) ∧ w'.cell? pk = some (.int .i64 p)) (ds := []) #[false, false, false, false, false, false, false, false, false, false, false, false, false, false] (by kernel_rfl) rfl rfl ⟨e0, d0⟩ (fun hHeld => ?_)
              refine pure_ (i := 0) (N := some 55) (v := ?_) (a' := ?_) #[true, false, false, false, false, false, false, false, false, false, false, false, false, false] rfl rfl (by kernel_rfl) (fun _ _ _ h => h) (Or.inl ⟨by rfl, ?_⟩) ?_ ?_
              rotate_left
              · intro w'
                go_simp
                with_reducible rfl
              rotate_left
              · simp only [Act.put, List.setIfInBounds_toArray, List.set_cons_zero, List.set_cons_succ, i64_w, i32_w]
                rfl
              refine pure_ (i := 1) (N := some 56) (v := ?_) (a' := ?_) #[true, true, false, false, false, false, false, false, false, false, false, false, false, false] rfl rfl (by kernel_rfl) (fun _ _ _ h => h) (Or.inl ⟨by rfl, ?_⟩) ?_ ?_
              rotate_left
              · intro w'
                go_simp
                with_reducible rfl
              rotate_left
              · simp only [Act.put, List.setIfInBounds_toArray, List.set_cons_zero, List.set_cons_succ, i64_w, i32_w]
                rfl
              refine pure_ (i := 2) (N := some 57) (v := ?_) (a' := ?_) #[true, true, true, false, false, false, false, false, false, false, false, false, false, false] rfl rfl (by kernel_rfl) (fun _ _ _ h => h) (Or.inl ⟨by rfl, ?_⟩) ?_ ?_
              rotate_left
              · intro w'
                go_simp
                with_reducible rfl
              rotate_left
              · simp only [Act.put, List.setIfInBounds_toArray, List.set_cons_zero, List.set_cons_succ, i64_w, i32_w]
                rfl
              refine pure_ (i := 4) (N := some 59) (v := ?_) (a' := ?_) #[true, true, true, false, true, false, false, false, false, false, false, false, false, false] rfl rfl (by kernel_rfl) (fun _ _ _ h => h) (Or.inl ⟨by rfl, ?_⟩) ?_ ?_
              rotate_left
              · intro w'
                go_simp
                with_reducible rfl
              rotate_left
              · simp only [Act.put, List.setIfInBounds_toArray, List.set_cons_zero, List.set_cons_succ, i64_w, i32_w]
                rfl
              refine pure_ (i := 5) (N := some 60) (v := ?_) (a' := ?_) #[true, true, true, false, true, true, false, false, false, false, false, false, false, false] rfl rfl (by kernel_rfl) (fun _ _ _ h => h) (Or.inl ⟨by rfl, ?_⟩) ?_ ?_
              rotate_left
              · intro w'
                go_simp
                with_reducible rfl
              rotate_left
              · simp only [Act.put, List.setIfInBounds_toArray, List.set_cons_zero, List.set_cons_succ, i64_w, i32_w]
                rfl
              refine pure_ (i := 6) (N := some 61) (v := ?_) (a' := ?_) #[true, true, true, false, true, true, true, false, false, false, false, false, false, false] rfl rfl (by kernel_rfl) (fun _ _ _ h => h) (Or.inl ⟨by rfl, ?_⟩) ?_ ?_
              rotate_left
              · intro w'
                go_simp
                with_reducible rfl
              rotate_left
              · simp only [Act.put, List.setIfInBounds_toArray, List.set_cons_zero, List.set_cons_succ, i64_w, i32_w]
                rfl
              refine pure_ (i := 7) (N := some 62) (v := ?_) (a' := ?_) #[true, true, true, false, true, true, true, true, false, false, false, false, false, false] rfl rfl (by kernel_rfl) (fun _ _ _ h => h) (Or.inl ⟨by rfl, ?_⟩) ?_ ?_
              rotate_left
              · intro w'
                go_simp
                with_reducible rfl
              rotate_left
              · simp only [Act.put, List.setIfInBounds_toArray, List.set_cons_zero, List.set_cons_succ, i64_w, i32_w]
                rfl
              refine pure_ (i := 10) (N := some 65) (v := ?_) (a' := ?_) #[true, true, true, false, true, true, true, true, false, false, true, false, false, false] rfl rfl (by kernel_rfl) (fun _ _ _ h => h) (Or.inl ⟨by rfl, ?_⟩) ?_ ?_
              rotate_left
              · intro w'
                go_simp
                with_reducible rfl
              rotate_left
              · simp only [Act.put, List.setIfInBounds_toArray, List.set_cons_zero, List.set_cons_succ, i64_w, i32_w]
                rfl
              refine pure_ (i := 11) (N := some 66) (v := ?_) (a' := ?_) #[true, true, true, false, true, true, true, true, false, false, true, true, false, false] rfl rfl (by kernel_rfl) (fun _ _ _ h => h) (Or.inl ⟨by rfl, ?_⟩) ?_ ?_
              rotate_left
              · intro w'
                go_simp
                with_reducible rfl
              rotate_left
              · simp only [Act.put, List.setIfInBounds_toArray, List.set_cons_zero, List.set_cons_succ, i64_w, i32_w]
                rfl
              refine pure_ (i := 12) (N := some 67) (v := ?_) (a' := ?_) #[true, true, true, false, true, true, true, true, false, false, true, true, true, false] rfl rfl (by kernel_rfl) (fun _ _ _ h => h) (Or.inl ⟨by rfl, ?_⟩) ?_ ?_
              rotate_left
              · intro w'
                go_simp
                with_reducible rfl
              rotate_left
              · simp only [Act.put, List.setIfInBounds_toArray, List.set_cons_zero, List.set_cons_succ, i64_w, i32_w]
                rfl
              refine take_ (i := 3) (N := some 58) (v := ?_) (a' := ?_) #[true, true, true, true, true, true, true, true, false, false, true, true, true, false] rfl rfl (by kernel_rfl) (fun _ _ _ h => h) (Or.inl ⟨by rfl, ?_⟩) hHeld ?_ ?_
              rotate_left
              · rintro w' ⟨s0, s1⟩
                go_simp
                with_reducible rfl
              rotate_left
              · simp only [Act.put, List.setIfInBounds_toArray, List.set_cons_zero, List.set_cons_succ, i64_w, i32_w]
                rfl
              refine take_ (i := 8) (N := some 63) (v := ?_) (a' := ?_) #[true, true, true, true, true, true, true, true, true, false, true, true, true, false] rfl rfl (by kernel_rfl) (fun _ _ _ h => h) (Or.inl ⟨by rfl, ?_⟩) hHeld ?_ ?_
              rotate_left
              · rintro w' ⟨s0, s1⟩
                go_simp
                with_reducible rfl
              rotate_left
              · simp only [Act.put, List.setIfInBounds_toArray, List.set_cons_zero, List.set_cons_succ, i64_w, i32_w]
                rfl
              refine pure_ (i := 9) (N := some 64) (v := ?_) (a' := ?_) #[true, true, true, true, true, true, true, true, true, true, true, true, true, false] rfl rfl (by kernel_rfl) (fun _ _ _ h => h) (Or.inl ⟨by rfl, ?_⟩) ?_ ?_
              rotate_left
              · intro w'
                go_simp
                with_reducible rfl
              rotate_left
              · simp only [Act.put, List.setIfInBounds_toArray, List.set_cons_zero, List.set_cons_succ, i64_w, i32_w]
                rfl
              refine pure_ (i := 13) (N := some 68) (v := ?_) (a' := ?_) #[true, true, true, true, true, true, true, true, true, true, true, true, true, true] rfl rfl (by kernel_rfl) (fun _ _ _ h => h) (Or.inl ⟨by rfl, ?_⟩) ?_ ?_
              rotate_left
              · intro w'
                go_simp
                with_reducible rfl
              rotate_left
              · simp only [Act.put, List.setIfInBounds_toArray, List.set_cons_zero, List.set_cons_succ, i64_w, i32_w]
                rfl
              refine done_ (by kernel_rfl) ?_
              clear hw1 hw2 edq edy d0 e0 hpk
              have hdn : ¬dq < dy := by omega
              go_wp2
              all_goals (try (exfalso; omega))
              all_goals go_roundw
              all_goals (try (case rel => first | exact ⟨k + 1, by go_num, by omega, ⟨(by repeat (first | (with_reducible first | exact HB.out | apply below_alloc | apply pw_below_drewN | apply below_drew1) | exact HB.out))⟩, ⟨(by repeat (first | exact BS.out | (with_reducible refine blk_drewN ?_ _) | (with_reducible refine blk_drew ?_)))⟩⟩ | ((repeat apply Exists.intro); exact ⟨⟨k + 1, by go_num, by omega, ⟨(by repeat (first | (with_reducible first | exact HB.out | apply below_alloc | apply pw_below_drewN | apply below_drew1) | exact HB.out))⟩, ⟨(by repeat (first | exact BS.out | (with_reducible refine blk_drewN ?_ _) | (with_reducible refine blk_drew ?_)))⟩⟩, rfl⟩)))
              all_goals (try (case measure => (simp [intOf] <;> omega)))
          · obtain rfl : n = k + 1 := by omega
            go_wp2
            all_goals (try (exfalso; omega))
            all_goals go_roundw
            all_goals (try (case rel => first | exact ⟨i + 1, by go_num, by omega, by rw [HST.out]; go_num, ⟨(by repeat (first | (with_reducible first | exact HB.out | apply below_alloc | apply pw_below_drewN | apply below_drew1) | exact HB.out))⟩, ⟨(by repeat (first | exact BS.out | (with_reducible refine blk_drewN ?_ _) | (with_reducible refine blk_drew ?_)))⟩⟩ | ((repeat apply Exists.intro); exact ⟨⟨i + 1, by go_num, by omega, by rw [HST.out]; go_num, ⟨(by repeat (first | (with_reducible first | exact HB.out | apply below_alloc | apply pw_below_drewN | apply below_drew1) | exact HB.out))⟩, ⟨(by repeat (first | exact BS.out | (with_reducible refine blk_drewN ?_ _) | (with_reducible refine blk_drew ?_)))⟩⟩, rfl⟩)))
            all_goals (try (case measure => (simp [intOf] <;> omega)))
    · obtain rfl : i = m := by omega
      have HO2 := Aside0.mk (show onesL (L.take i) = 1 by rw [← HR.out.1, List.take_length]; exact HO.out)
      rw [HO2.out]
      go_wp2_with (first | (go_at_call 18; (with_reducible refine (cover_c (Kd.C_below HR.out (by repeat (first | (with_reducible first | exact HB.out | apply below_alloc | apply pw_below_drewN | apply below_drew1) | exact HB.out))) (Kd.C_below HLR.out (by repeat (first | (with_reducible first | exact HB.out | apply below_alloc | apply pw_below_drewN | apply below_drew1) | exact HB.out))) he (by omega) (by omega) true HCV.out).mono ?_); rintro e w9 ⟨rfl, hb⟩; have n0_ := Aside0.mk (below_step (by repeat (first | (with_reducible first | exact HB.out | apply below_alloc | apply pw_below_drewN | apply below_drew1) | exact HB.out)) hb); clear HB; have HB := n0_; clear n0_; have hs_ := below_step (by repeat (first | (with_reducible first | exact HL.out | apply below_alloc | apply pw_below_drewN | apply below_drew1) | exact HL.out)) hb; have n_ := Aside0.mk (blk_below BS.out hs_); clear qBS_0 lBS fBS; clear BS; have BS := n_; clear n_; have qBS_0 := blk_cell BS.out 0; have lBS := blk_lt BS.out; simp only [List.getElem?_toArray, List.getElem?_cons_zero, List.getElem?_cons_succ] at qBS_0; have fBS := blk_frozen BS.out 0; clear HL hs_ hb; have HL := Aside0.mk (Below.refl w9.heap.size w9)))
      all_goals (try (exfalso; omega))
      all_goals go_ret
      all_goals exact ⟨rfl, (by repeat (first | (with_reducible first | exact HB.out | apply below_alloc | apply pw_below_drewN | apply below_drew1) | exact HB.out))⟩
end Go.Proofs.Ytoidaakmmnlhgaa.Hand

/- Intervals: SpansMerge, walked. -/
set_option linter.unusedVariables false
set_option linter.unusedSimpArgs false
namespace Go.Proofs.Ytoidaakmmnlhgaa.Hand
open Go.RowKit Go.Proofs.YtoidaakmmnlhgaaW.PrintWords Go.Proofs.YtoidaakmmnlhgaaW.PrintLast Go.Proofs.YtoidaakmmnlhgaaW.PrintMore
theorem merged_ok (a b c d e : Int) (h0 : -1 ≤ a) (g1 : a + 2 ≤ b) (g2 : b + 2 ≤ c) (g3 : c + 2 ≤ d) (g4 : d + 2 ≤ e) (he : e ≤ 2000) (S : List Iv) (hS : adds [] [a, d, b, e, c] = S) :
    S.length = 4 ∧ (∀ y ∈ S, -1 ≤ y.1 ∧ y.1 ≤ y.2 ∧ y.2 ≤ 2000) ∧ (∀ y ∈ S, y.1 ≠ y.2 → ∀ k p q, [a, b, c, d, e][k]? = some p → [a, b, c, d, e][k + 1]? = some q → (p = y.1 → q = y.2) ∧ y.2 - y.1 ≤ q - p) ∧ onesL S = 1 ∧ coverL S [a, b, c, d, e] = true := by
  have hcov : coverL S [a, b, c, d, e] = true := by
    have h := (keep_law [a, d, b, e, c]).2.2.1
    rw [hS] at h
    unfold coverL at h ⊢
    rw [List.all_eq_true] at h ⊢
    intro x hx
    exact h x (by simp at hx ⊢; rcases hx with h | h | h | h | h <;> simp [h])
  have hl := merge_law a b c d e h0 g1 g2 g3 g4 he
  rw [hS] at hl
  have key : ∀ u v : Int, (u ≠ v → (∀ k p q, [a, b, c, d, e][k]? = some p → [a, b, c, d, e][k + 1]? = some q → (p = u → q = v) ∧ v - u ≤ q - p)) → ∀ y : Iv, y = (u, v) → y.1 ≠ y.2 → ∀ k p q, [a, b, c, d, e][k]? = some p → [a, b, c, d, e][k + 1]? = some q → (p = y.1 → q = y.2) ∧ y.2 - y.1 ≤ q - p := by
    rintro u v h y rfl hne
    exact h hne
  have kk : ∀ u v : Int, ((a = u → b = v) ∧ v - u ≤ b - a) → ((b = u → c = v) ∧ v - u ≤ c - b) → ((c = u → d = v) ∧ v - u ≤ d - c) → ((d = u → e = v) ∧ v - u ≤ e - d) → ∀ k p q, [a, b, c, d, e][k]? = some p → [a, b, c, d, e][k + 1]? = some q → (p = u → q = v) ∧ v - u ≤ q - p := by
    intro u v h1 h2 h3 h4 k p q hp hq
    rcases k with _ | _ | _ | _ | k
    · simp at hp hq; subst hp hq; exact h1
    · simp at hp hq; subst hp hq; exact h2
    · simp at hp hq; subst hp hq; exact h3
    · simp at hp hq; subst hp hq; exact h4
    · simp at hq
  have pt : ∀ u : Int, u ≠ u → ∀ k p q, [a, b, c, d, e][k]? = some p → [a, b, c, d, e][k + 1]? = some q → (p = u → q = u) ∧ u - u ≤ q - p := fun u h => absurd rfl h
  rcases hl with ⟨rfl, x1, x2, x3⟩ | ⟨rfl, x1, x2, x3⟩ | ⟨rfl, x1, x2, x3⟩ | ⟨rfl, x1, x2, x3⟩
  · refine ⟨rfl, by simp; omega, ?_, by simp [onesL, show a ≠ b by omega], hcov⟩
    intro y hy
    simp only [List.mem_cons, List.not_mem_nil, or_false] at hy
    rcases hy with h | h | h | h
    · exact key a b (fun _ => kk a b (by omega) (by omega) (by omega) (by omega)) y h
    all_goals exact key _ _ (pt _) y h
  · refine ⟨rfl, by simp; omega, ?_, by simp [onesL, show b ≠ c by omega], hcov⟩
    intro y hy
    simp only [List.mem_cons, List.not_mem_nil, or_false] at hy
    rcases hy with h | h | h | h
    · exact key _ _ (pt _) y h
    · exact key b c (fun _ => kk b c (by omega) (by omega) (by omega) (by omega)) y h
    all_goals exact key _ _ (pt _) y h
  · refine ⟨rfl, by simp; omega, ?_, by simp [onesL, show c ≠ d by omega], hcov⟩
    intro y hy
    simp only [List.mem_cons, List.not_mem_nil, or_false] at hy
    rcases hy with h | h | h | h
    · exact key _ _ (pt _) y h
    · exact key _ _ (pt _) y h
    · exact key c d (fun _ => kk c d (by omega) (by omega) (by omega) (by omega)) y h
    · exact key _ _ (pt _) y h
  · refine ⟨rfl, by simp; omega, ?_, by simp [onesL, show d ≠ e by omega], hcov⟩
    intro y hy
    simp only [List.mem_cons, List.not_mem_nil, or_false] at hy
    rcases hy with h | h | h | h
    · exact key _ _ (pt _) y h
    · exact key _ _ (pt _) y h
    · exact key _ _ (pt _) y h
    · exact key d e (fun _ => kk d e (by omega) (by omega) (by omega) (by omega)) y h
theorem ARow.cap {W : World} {base n c : Nat} {A : Option Addr} {xs : List Int} (h : ARow W base (.slice A n c) xs) : n ≤ c := by
  obtain ⟨A', c', e, hl, _⟩ := h.reads
  injection e with e1 e2 e3
  rw [e2, e3]
  exact hl
set_option maxHeartbeats 4000000 in
set_option maxRecDepth 100000 in
theorem merge_walk {W : World} (l0 l1 l2 l3 l4 : Int) (b0 : 0 ≤ l0 ∧ l0 ≤ 255) (b1 : 0 ≤ l1 ∧ l1 ≤ 255) (b2 : 0 ≤ l2 ∧ l2 ≤ 255) (b3 : 0 ≤ l3 ∧ l3 ≤ 255) (b4 : 0 ≤ l4 ∧ l4 ≤ 255) :
    Calls Try.prog 7 #[.agg #[.int .u8 l0, .int .u8 l1, .int .u8 l2, .int .u8 l3, .int .u8 l4]] W fun e w' => e = .returned (.bool true) ∧ Below W.heap.size W w' := by
  obtain ⟨n0, hn0⟩ : ∃ n, -1 + l0 = n := ⟨_, rfl⟩
  obtain ⟨n1, hn1⟩ : ∃ n, n0 + 2 + l1 = n := ⟨_, rfl⟩
  obtain ⟨n2, hn2⟩ : ∃ n, n1 + 2 + l2 = n := ⟨_, rfl⟩
  obtain ⟨n3, hn3⟩ : ∃ n, n2 + 2 + l3 = n := ⟨_, rfl⟩
  obtain ⟨n4, hn4⟩ : ∃ n, n3 + 2 + l4 = n := ⟨_, rfl⟩
  have HB := Aside0.mk (Below.refl W.heap.size W)
  have HL := Aside0.mk (Below.refl W.heap.size W)
  go_enter Try.func7, Try.ntmps7
  go_upto_block 0 with (first | (go_at_call 8; (with_reducible refine (examples_c _).mono ?_); rintro e w1 ⟨rfl, hb⟩; have n0_ := Aside0.mk (below_step (by repeat (first | (with_reducible first | exact HB.out | apply below_alloc | apply pw_below_drewN | apply below_drew1) | exact HB.out)) hb); clear HB; have HB := n0_; clear n0_; have hs_ := below_step (by repeat (first | (with_reducible first | exact HL.out | apply below_alloc | apply pw_below_drewN | apply below_drew1) | exact HL.out)) hb; have BL := Aside0.mk (blk_below (o := .cells #[.int .u8 l0, .int .u8 l1, .int .u8 l2, .int .u8 l3, .int .u8 l4] 47 (0, 0)) (g := W.heap.size) (by repeat (first | (with_reducible refine blk_drewN ?_ _) | (with_reducible refine blk_drew ?_) | exact blk_new' (by first | rfl | simp) | (with_reducible refine blk_alloc ?_ _))) hb); have qBL_0 := blk_cell BL.out 0; have qBL_1 := blk_cell BL.out 1; have qBL_2 := blk_cell BL.out 2; have qBL_3 := blk_cell BL.out 3; have qBL_4 := blk_cell BL.out 4; have lBL := blk_lt BL.out; simp only [List.getElem?_toArray, List.getElem?_cons_zero, List.getElem?_cons_succ] at qBL_0 qBL_1 qBL_2 qBL_3 qBL_4; have fBL := blk_frozen BL.out 0; clear HL hs_ hb; have HL := Aside0.mk (Below.refl w1.heap.size w1)))
  have hg0 : W.heap.size ≤ w1.heap.size := below_size HB.out
  have hg1 : W.heap.size < w1.heap.size := lBL
  go_cut [5, 6, 7] (fun v5 v6 v7 wx => ∃ (Aa : Option Addr) (ca : Nat), v5 = .slice Aa 5 ca ∧ Aside0 (Below W.heap.size W wx) ∧ Aside0 (wx.heap[w1.heap.size]? = some (.cells #[.slice none 0 0] 24 (0, 0))) ∧ Aside0 (ARow wx W.heap.size (.slice Aa 5 ca) [n0, n1, n2, n3, n4]))
  case first => as_aux_lemma =>
    go_wp2
    go_loopw [5, 6, 7] (fun v5 v6 v7 wr => ∃ (j : Nat) (Aa : Option Addr) (ca : Nat), v7 = .int .i64 (j : Int) ∧ j ≤ 5 ∧ v6 = .int .i64 (([-3, n0, n1, n2, n3, n4] : List Int).getD j 0) ∧ v5 = .slice Aa j ca ∧ Aside0 (Below W.heap.size W wr) ∧ Aside0 (wr.heap[w1.heap.size]? = some (.cells #[.slice none 0 0] 24 (0, 0))) ∧ Aside0 (wr.heap[W.heap.size]? = some (.cells #[.int .u8 l0, .int .u8 l1, .int .u8 l2, .int .u8 l3, .int .u8 l4] 47 (0, 0))) ∧ Aside0 (ARow wr W.heap.size (.slice Aa j ca) ([n0, n1, n2, n3, n4].take j))) (fun _ _ v _ => 5 - (intOf v).toNat)
    case atStart => exact ⟨0, none, 0, rfl, by omega, rfl, rfl, ⟨(by repeat (first | (with_reducible first | exact HB.out | apply below_alloc | apply pw_below_drewN | apply below_drew1) | exact HB.out))⟩, ⟨(by repeat (first | (with_reducible refine blk_drewN ?_ _) | (with_reducible refine blk_drew ?_) | exact blk_new' (by first | rfl | simp) | (with_reducible refine blk_alloc ?_ _)))⟩, ⟨(by repeat (first | exact BL.out | (with_reducible refine blk_drewN ?_ _) | (with_reducible refine blk_drew ?_) | (with_reducible refine blk_alloc ?_ _)))⟩, ⟨ARow.nil_ _ _⟩⟩
    case round =>
      clear HB HL BL qBL_0 qBL_1 qBL_2 qBL_3 qBL_4 lBL fBL
      obtain ⟨j, Aa, ca, rfl, hj, rfl, rfl, HB, BS, BL, HA⟩ := hrel
      have qBL_0 := blk_cell BL.out 0
      have qBL_1 := blk_cell BL.out 1
      have qBL_2 := blk_cell BL.out 2
      have qBL_3 := blk_cell BL.out 3
      have qBL_4 := blk_cell BL.out 4
      have lBL := blk_lt BL.out
      simp only [List.getElem?_toArray, List.getElem?_cons_zero, List.getElem?_cons_succ] at qBL_0 qBL_1 qBL_2 qBL_3 qBL_4
      have fBL := blk_frozen BL.out 0
      have qBS_0 := blk_cell BS.out 0
      have lBS := blk_lt BS.out
      simp only [List.getElem?_toArray, List.getElem?_cons_zero, List.getElem?_cons_succ] at qBS_0
      have fBS := blk_frozen BS.out 0
      have HL := Aside0.mk (Below.refl wr.heap.size wr)
      by_cases hlt : j < 5
      · rcases j with _ | _ | _ | _ | _ | j
        · have HA := Aside0.mk (show ARow wr W.heap.size (.slice Aa 0 ca) [] from HA.out)
          go_wp2_with (first | ((with_reducible refine gate_builtin (b := .append) (xs := #[.tmp 24, .tmp 26]) rfl ?_); at_builtin; refine a_append (w0 := W) W.heap.size rfl (.tmp 24) (.tmp 26) rfl (.slice Aa 0 ca) [] n0 rfl rfl (by simp) (ARow.below HA.out (by repeat (first | (with_reducible first | exact HL.out | apply below_alloc | apply pw_below_drewN | apply below_drew1) | exact HL.out))) (by repeat (first | (with_reducible first | exact HB.out | apply below_alloc | apply pw_below_drewN | apply below_drew1) | exact HB.out)) (below_size (by repeat (first | (with_reducible first | exact HB.out | apply below_alloc | apply pw_below_drewN | apply below_drew1) | exact HB.out))) (by simp) ?_; intro v7 w7 r1 b1 g1; have n1_ := Aside0.mk (blk_grown (by repeat (first | exact BS.out | (with_reducible refine blk_drewN ?_ _) | (with_reducible refine blk_drew ?_))) g1 (Kd.R_ne (ARow.below HA.out (by repeat (first | (with_reducible first | exact HL.out | apply below_alloc | apply pw_below_drewN | apply below_drew1) | exact HL.out))) (by repeat (first | exact BS.out | (with_reducible refine blk_drewN ?_ _) | (with_reducible refine blk_drew ?_))) (by decide))); have n2_ := Aside0.mk (blk_grown (by repeat (first | exact BL.out | (with_reducible refine blk_drewN ?_ _) | (with_reducible refine blk_drew ?_))) g1 (Kd.R_ne (ARow.below HA.out (by repeat (first | (with_reducible first | exact HL.out | apply below_alloc | apply pw_below_drewN | apply below_drew1) | exact HL.out))) (by repeat (first | exact BL.out | (with_reducible refine blk_drewN ?_ _) | (with_reducible refine blk_drew ?_))) (by decide))); clear BS BL HA HB HL qBS_0 lBS fBS qBL_0 qBL_1 qBL_2 qBL_3 qBL_4 lBL fBL; have BS := n1_; have BL := n2_; have HB := Aside0.mk b1; obtain ⟨Ab, cb, rfl, hcb, _⟩ := ARow.reads r1; have HA := Aside0.mk (show ARow w7 W.heap.size (.slice Ab 1 cb) [n0] from r1); clear n1_ n2_ r1 b1 g1; have HL := Aside0.mk (Below.refl w7.heap.size w7)))
          all_goals (try (exfalso; omega))
          all_goals go_roundw
          all_goals (try (case rel => first | exact ⟨1, Ab, cb, by go_num, by omega, rfl, rfl, HB, BS, BL, HA⟩ | ((repeat apply Exists.intro); exact ⟨⟨1, Ab, cb, by go_num, by omega, rfl, rfl, HB, BS, BL, HA⟩, rfl⟩)))
          all_goals (try (case measure => (simp [intOf])))
        · have HA := Aside0.mk (show ARow wr W.heap.size (.slice Aa 1 ca) [n0] from HA.out)
          go_wp2_with (first | ((with_reducible refine gate_builtin (b := .append) (xs := #[.tmp 24, .tmp 26]) rfl ?_); at_builtin; refine a_append (w0 := W) W.heap.size rfl (.tmp 24) (.tmp 26) rfl (.slice Aa 1 ca) [n0] n1 rfl rfl (by simp) (ARow.below HA.out (by repeat (first | (with_reducible first | exact HL.out | apply below_alloc | apply pw_below_drewN | apply below_drew1) | exact HL.out))) (by repeat (first | (with_reducible first | exact HB.out | apply below_alloc | apply pw_below_drewN | apply below_drew1) | exact HB.out)) (below_size (by repeat (first | (with_reducible first | exact HB.out | apply below_alloc | apply pw_below_drewN | apply below_drew1) | exact HB.out))) (by simp) ?_; intro v7 w7 r1 b1 g1; have n1_ := Aside0.mk (blk_grown (by repeat (first | exact BS.out | (with_reducible refine blk_drewN ?_ _) | (with_reducible refine blk_drew ?_))) g1 (Kd.R_ne (ARow.below HA.out (by repeat (first | (with_reducible first | exact HL.out | apply below_alloc | apply pw_below_drewN | apply below_drew1) | exact HL.out))) (by repeat (first | exact BS.out | (with_reducible refine blk_drewN ?_ _) | (with_reducible refine blk_drew ?_))) (by decide))); have n2_ := Aside0.mk (blk_grown (by repeat (first | exact BL.out | (with_reducible refine blk_drewN ?_ _) | (with_reducible refine blk_drew ?_))) g1 (Kd.R_ne (ARow.below HA.out (by repeat (first | (with_reducible first | exact HL.out | apply below_alloc | apply pw_below_drewN | apply below_drew1) | exact HL.out))) (by repeat (first | exact BL.out | (with_reducible refine blk_drewN ?_ _) | (with_reducible refine blk_drew ?_))) (by decide))); clear BS BL HA HB HL qBS_0 lBS fBS qBL_0 qBL_1 qBL_2 qBL_3 qBL_4 lBL fBL; have BS := n1_; have BL := n2_; have HB := Aside0.mk b1; obtain ⟨Ab, cb, rfl, hcb, _⟩ := ARow.reads r1; have HA := Aside0.mk (show ARow w7 W.heap.size (.slice Ab 2 cb) [n0, n1] from r1); clear n1_ n2_ r1 b1 g1; have HL := Aside0.mk (Below.refl w7.heap.size w7)))
          all_goals (try (exfalso; omega))
          all_goals go_roundw
          all_goals (try (case rel => first | exact ⟨2, Ab, cb, by go_num, by omega, rfl, rfl, HB, BS, BL, HA⟩ | ((repeat apply Exists.intro); exact ⟨⟨2, Ab, cb, by go_num, by omega, rfl, rfl, HB, BS, BL, HA⟩, rfl⟩)))
          all_goals (try (case measure => (simp [intOf])))
        · have HA := Aside0.mk (show ARow wr W.heap.size (.slice Aa 2 ca) [n0, n1] from HA.out)
          go_wp2_with (first | ((with_reducible refine gate_builtin (b := .append) (xs := #[.tmp 24, .tmp 26]) rfl ?_); at_builtin; refine a_append (w0 := W) W.heap.size rfl (.tmp 24) (.tmp 26) rfl (.slice Aa 2 ca) [n0, n1] n2 rfl rfl (by simp) (ARow.below HA.out (by repeat (first | (with_reducible first | exact HL.out | apply below_alloc | apply pw_below_drewN | apply below_drew1) | exact HL.out))) (by repeat (first | (with_reducible first | exact HB.out | apply below_alloc | apply pw_below_drewN | apply below_drew1) | exact HB.out)) (below_size (by repeat (first | (with_reducible first | exact HB.out | apply below_alloc | apply pw_below_drewN | apply below_drew1) | exact HB.out))) (by simp) ?_; intro v7 w7 r1 b1 g1; have n1_ := Aside0.mk (blk_grown (by repeat (first | exact BS.out | (with_reducible refine blk_drewN ?_ _) | (with_reducible refine blk_drew ?_))) g1 (Kd.R_ne (ARow.below HA.out (by repeat (first | (with_reducible first | exact HL.out | apply below_alloc | apply pw_below_drewN | apply below_drew1) | exact HL.out))) (by repeat (first | exact BS.out | (with_reducible refine blk_drewN ?_ _) | (with_reducible refine blk_drew ?_))) (by decide))); have n2_ := Aside0.mk (blk_grown (by repeat (first | exact BL.out | (with_reducible refine blk_drewN ?_ _) | (with_reducible refine blk_drew ?_))) g1 (Kd.R_ne (ARow.below HA.out (by repeat (first | (with_reducible first | exact HL.out | apply below_alloc | apply pw_below_drewN | apply below_drew1) | exact HL.out))) (by repeat (first | exact BL.out | (with_reducible refine blk_drewN ?_ _) | (with_reducible refine blk_drew ?_))) (by decide))); clear BS BL HA HB HL qBS_0 lBS fBS qBL_0 qBL_1 qBL_2 qBL_3 qBL_4 lBL fBL; have BS := n1_; have BL := n2_; have HB := Aside0.mk b1; obtain ⟨Ab, cb, rfl, hcb, _⟩ := ARow.reads r1; have HA := Aside0.mk (show ARow w7 W.heap.size (.slice Ab 3 cb) [n0, n1, n2] from r1); clear n1_ n2_ r1 b1 g1; have HL := Aside0.mk (Below.refl w7.heap.size w7)))
          all_goals (try (exfalso; omega))
          all_goals go_roundw
          all_goals (try (case rel => first | exact ⟨3, Ab, cb, by go_num, by omega, rfl, rfl, HB, BS, BL, HA⟩ | ((repeat apply Exists.intro); exact ⟨⟨3, Ab, cb, by go_num, by omega, rfl, rfl, HB, BS, BL, HA⟩, rfl⟩)))
          all_goals (try (case measure => (simp [intOf])))
        · have HA := Aside0.mk (show ARow wr W.heap.size (.slice Aa 3 ca) [n0, n1, n2] from HA.out)
          go_wp2_with (first | ((with_reducible refine gate_builtin (b := .append) (xs := #[.tmp 24, .tmp 26]) rfl ?_); at_builtin; refine a_append (w0 := W) W.heap.size rfl (.tmp 24) (.tmp 26) rfl (.slice Aa 3 ca) [n0, n1, n2] n3 rfl rfl (by simp) (ARow.below HA.out (by repeat (first | (with_reducible first | exact HL.out | apply below_alloc | apply pw_below_drewN | apply below_drew1) | exact HL.out))) (by repeat (first | (with_reducible first | exact HB.out | apply below_alloc | apply pw_below_drewN | apply below_drew1) | exact HB.out)) (below_size (by repeat (first | (with_reducible first | exact HB.out | apply below_alloc | apply pw_below_drewN | apply below_drew1) | exact HB.out))) (by simp) ?_; intro v7 w7 r1 b1 g1; have n1_ := Aside0.mk (blk_grown (by repeat (first | exact BS.out | (with_reducible refine blk_drewN ?_ _) | (with_reducible refine blk_drew ?_))) g1 (Kd.R_ne (ARow.below HA.out (by repeat (first | (with_reducible first | exact HL.out | apply below_alloc | apply pw_below_drewN | apply below_drew1) | exact HL.out))) (by repeat (first | exact BS.out | (with_reducible refine blk_drewN ?_ _) | (with_reducible refine blk_drew ?_))) (by decide))); have n2_ := Aside0.mk (blk_grown (by repeat (first | exact BL.out | (with_reducible refine blk_drewN ?_ _) | (with_reducible refine blk_drew ?_))) g1 (Kd.R_ne (ARow.below HA.out (by repeat (first | (with_reducible first | exact HL.out | apply below_alloc | apply pw_below_drewN | apply below_drew1) | exact HL.out))) (by repeat (first | exact BL.out | (with_reducible refine blk_drewN ?_ _) | (with_reducible refine blk_drew ?_))) (by decide))); clear BS BL HA HB HL qBS_0 lBS fBS qBL_0 qBL_1 qBL_2 qBL_3 qBL_4 lBL fBL; have BS := n1_; have BL := n2_; have HB := Aside0.mk b1; obtain ⟨Ab, cb, rfl, hcb, _⟩ := ARow.reads r1; have HA := Aside0.mk (show ARow w7 W.heap.size (.slice Ab 4 cb) [n0, n1, n2, n3] from r1); clear n1_ n2_ r1 b1 g1; have HL := Aside0.mk (Below.refl w7.heap.size w7)))
          all_goals (try (exfalso; omega))
          all_goals go_roundw
          all_goals (try (case rel => first | exact ⟨4, Ab, cb, by go_num, by omega, rfl, rfl, HB, BS, BL, HA⟩ | ((repeat apply Exists.intro); exact ⟨⟨4, Ab, cb, by go_num, by omega, rfl, rfl, HB, BS, BL, HA⟩, rfl⟩)))
          all_goals (try (case measure => (simp [intOf])))
        · have HA := Aside0.mk (show ARow wr W.heap.size (.slice Aa 4 ca) [n0, n1, n2, n3] from HA.out)
          go_wp2_with (first | ((with_reducible refine gate_builtin (b := .append) (xs := #[.tmp 24, .tmp 26]) rfl ?_); at_builtin; refine a_append (w0 := W) W.heap.size rfl (.tmp 24) (.tmp 26) rfl (.slice Aa 4 ca) [n0, n1, n2, n3] n4 rfl rfl (by simp) (ARow.below HA.out (by repeat (first | (with_reducible first | exact HL.out | apply below_alloc | apply pw_below_drewN | apply below_drew1) | exact HL.out))) (by repeat (first | (with_reducible first | exact HB.out | apply below_alloc | apply pw_below_drewN | apply below_drew1) | exact HB.out)) (below_size (by repeat (first | (with_reducible first | exact HB.out | apply below_alloc | apply pw_below_drewN | apply below_drew1) | exact HB.out))) (by simp) ?_; intro v7 w7 r1 b1 g1; have n1_ := Aside0.mk (blk_grown (by repeat (first | exact BS.out | (with_reducible refine blk_drewN ?_ _) | (with_reducible refine blk_drew ?_))) g1 (Kd.R_ne (ARow.below HA.out (by repeat (first | (with_reducible first | exact HL.out | apply below_alloc | apply pw_below_drewN | apply below_drew1) | exact HL.out))) (by repeat (first | exact BS.out | (with_reducible refine blk_drewN ?_ _) | (with_reducible refine blk_drew ?_))) (by decide))); have n2_ := Aside0.mk (blk_grown (by repeat (first | exact BL.out | (with_reducible refine blk_drewN ?_ _) | (with_reducible refine blk_drew ?_))) g1 (Kd.R_ne (ARow.below HA.out (by repeat (first | (with_reducible first | exact HL.out | apply below_alloc | apply pw_below_drewN | apply below_drew1) | exact HL.out))) (by repeat (first | exact BL.out | (with_reducible refine blk_drewN ?_ _) | (with_reducible refine blk_drew ?_))) (by decide))); clear BS BL HA HB HL qBS_0 lBS fBS qBL_0 qBL_1 qBL_2 qBL_3 qBL_4 lBL fBL; have BS := n1_; have BL := n2_; have HB := Aside0.mk b1; obtain ⟨Ab, cb, rfl, hcb, _⟩ := ARow.reads r1; have HA := Aside0.mk (show ARow w7 W.heap.size (.slice Ab 5 cb) [n0, n1, n2, n3, n4] from r1); clear n1_ n2_ r1 b1 g1; have HL := Aside0.mk (Below.refl w7.heap.size w7)))
          all_goals (try (exfalso; omega))
          all_goals go_roundw
          all_goals (try (case rel => first | exact ⟨5, Ab, cb, by go_num, by omega, rfl, rfl, HB, BS, BL, HA⟩ | ((repeat apply Exists.intro); exact ⟨⟨5, Ab, cb, by go_num, by omega, rfl, rfl, HB, BS, BL, HA⟩, rfl⟩)))
          all_goals (try (case measure => (simp [intOf])))
        · omega
      · obtain rfl : j = 5 := by omega
        have HA := Aside0.mk (show ARow wr W.heap.size (.slice Aa 5 ca) [n0, n1, n2, n3, n4] from HA.out)
        go_wp2
        all_goals (try (exfalso; omega))
        all_goals go_meet
        all_goals exact ⟨Aa, ca, rfl, HB, BS, HA⟩
  case rest => as_aux_lemma =>
    clear HB HL BL qBL_0 qBL_1 qBL_2 qBL_3 qBL_4 lBL fBL
    obtain ⟨Aa, ca, rfl, HB, BS, HA⟩ := hcut
    have qBS_0 := blk_cell BS.out 0
    have lBS := blk_lt BS.out
    simp only [List.getElem?_toArray, List.getElem?_cons_zero, List.getElem?_cons_succ] at qBS_0
    have fBS := blk_frozen BS.out 0
    have HL := Aside0.mk (Below.refl wc.heap.size wc)
    obtain ⟨ad, ea, _⟩ := HA.out.C.1.2.2 (by omega)
    subst ea
    go_wp2
    go_loopw [8] (fun v8 wr => ∃ (j : Nat) (A : Option Addr) (m e : Nat), v8 = .int .i64 (j : Int) ∧ j ≤ 5 ∧ m ≤ e ∧ m ≤ 4 ∧ Aside0 (Below W.heap.size W wr) ∧ Aside0 (wr.heap[w1.heap.size]? = some (.cells #[.slice A m e] 24 (0, 0))) ∧ Aside0 (Kd.C kI wr A m (adds [] ([n0, n3, n1, n4, n2].take j))) ∧ Aside0 (ARow wr W.heap.size (.slice (some ad) 5 ca) [n0, n1, n2, n3, n4])) (fun v _ => 5 - (intOf v).toNat)
    case atStart => exact ⟨0, none, 0, 0, rfl, by omega, by omega, by omega, ⟨(by repeat (first | (with_reducible first | exact HB.out | apply below_alloc | apply pw_below_drewN | apply below_drew1) | exact HB.out))⟩, ⟨(by repeat (first | exact BS.out | (with_reducible refine blk_drewN ?_ _) | (with_reducible refine blk_drew ?_)))⟩, ⟨⟨rfl, by omega, fun h => absurd h (by omega)⟩⟩, ⟨ARow.below HA.out (by repeat (first | (with_reducible first | exact HL.out | apply below_alloc | apply pw_below_drewN | apply below_drew1) | exact HL.out))⟩⟩
    case round =>
      clear HB HL BS qBS_0 lBS fBS HA
      obtain ⟨j, A, m, e, rfl, hj, hme, hm4, HB, BS, HC, HA⟩ := hrel
      have qBS_0 := blk_cell BS.out 0
      have lBS := blk_lt BS.out
      simp only [List.getElem?_toArray, List.getElem?_cons_zero, List.getElem?_cons_succ] at qBS_0
      have fBS := blk_frozen BS.out 0
      have HL := Aside0.mk (Below.refl wr.heap.size wr)
      by_cases hlt : j < 5
      · obtain rfl | rfl | rfl | rfl | rfl : j = 0 ∨ j = 1 ∨ j = 2 ∨ j = 3 ∨ j = 4 := by omega
        · rw [show ((0 : Nat) : Int) = 0 from rfl]
          have d := int_at' HA.out.C.1 0 n0 rfl
          have d' : wr.cell? ad = some (.int .i64 n0) := d
          have hw3 : IntKind.i64.wrap 0 = 0 := by decide
          have HAD := Aside0.mk (show addL (adds [] ([n0, n3, n1, n4, n2].take 0)) n0 = adds [] ([n0, n3, n1, n4, n2].take (0 + 1)) from (adds_take (L := []) (l := [n0, n3, n1, n4, n2]) 0 n0 rfl).symm)
          have ht3 : Int.tmod 0 5 = 0 := by decide
          go_wp2
          go_region_law (first | (refine goes_ Try.func11 (by kernel_rfl) rfl #[.agg #[.slice A m e], .int .i64 n0] (by rfl) rfl rfl (by simp only [List.map_toArray, List.map_cons, List.map_nil]; rfl) ?_; refine (add_n (Kd.C_below HC.out (by repeat (first | (with_reducible first | exact HL.out | apply below_alloc | apply pw_below_drewN | apply below_drew1) | exact HL.out))) hme (by omega) n0 _ HAD.out).mono ?_; rintro e w6 ⟨A1, m1, e1, rfl, hC, hme1, hm1, hb⟩; refine ⟨_, rfl, ?_⟩; have n_ := Aside0.mk (below_step (by repeat (first | (with_reducible first | exact HB.out | apply below_alloc | apply pw_below_drewN | apply below_drew1) | exact HB.out)) hb); clear HB; have HB := n_; clear n_; have n_ := Aside0.mk (blk_below (o := .cells #[.slice A m e] 24 (0, 0)) (g := w1.heap.size) (by repeat (first | exact BS.out | (with_reducible refine blk_drewN ?_ _) | (with_reducible refine blk_drew ?_))) hb); have n2_ := Aside0.mk (ARow.below (ARow.below HA.out (by repeat (first | (with_reducible first | exact HL.out | apply below_alloc | apply pw_below_drewN | apply below_drew1) | exact HL.out))) hb); clear qBS_0 lBS fBS; clear BS HA; have BS := n_; have HA := n2_; clear n_ n2_; have qBS_0 := blk_cell BS.out 0; have lBS := blk_lt BS.out; simp only [List.getElem?_toArray, List.getElem?_cons_zero, List.getElem?_cons_succ] at qBS_0; have fBS := blk_frozen BS.out 0; have HC1 := Aside0.mk hC; clear hC HC HL hb; have HL := Aside0.mk (Below.refl w6.heap.size w6)))
          all_goals go_wp2
          all_goals go_roundw
          all_goals (try (case rel => first | exact ⟨1, A1, m1, e1, by go_num, by omega, hme1, by omega, ⟨below_set HB.out hg0⟩, ⟨blk_put BS.out _⟩, ⟨C_box HC1.out BS.out _⟩, ⟨ARow.put HA.out BS.out _⟩⟩ | ((repeat apply Exists.intro); exact ⟨⟨1, A1, m1, e1, by go_num, by omega, hme1, by omega, ⟨below_set HB.out hg0⟩, ⟨blk_put BS.out _⟩, ⟨C_box HC1.out BS.out _⟩, ⟨ARow.put HA.out BS.out _⟩⟩, rfl⟩)))
          all_goals (try (case measure => (simp [intOf])))
        · rw [show ((1 : Nat) : Int) = 1 from rfl]
          have d := int_at' HA.out.C.1 3 n3 rfl
          have d' : wr.cell? ⟨ad.block, ad.off + 3, none⟩ = some (.int .i64 n3) := d
          have hw3 : IntKind.i64.wrap 3 = 3 := by decide
          have HAD := Aside0.mk (show addL (adds [] ([n0, n3, n1, n4, n2].take 1)) n3 = adds [] ([n0, n3, n1, n4, n2].take (1 + 1)) from (adds_take (L := []) (l := [n0, n3, n1, n4, n2]) 1 n3 rfl).symm)
          have ht3 : Int.tmod 3 5 = 3 := by decide
          go_wp2
          go_region_law (first | (refine goes_ Try.func11 (by kernel_rfl) rfl #[.agg #[.slice A m e], .int .i64 n3] (by rfl) rfl rfl (by simp only [List.map_toArray, List.map_cons, List.map_nil]; rfl) ?_; refine (add_n (Kd.C_below HC.out (by repeat (first | (with_reducible first | exact HL.out | apply below_alloc | apply pw_below_drewN | apply below_drew1) | exact HL.out))) hme (by omega) n3 _ HAD.out).mono ?_; rintro e w6 ⟨A1, m1, e1, rfl, hC, hme1, hm1, hb⟩; refine ⟨_, rfl, ?_⟩; have n_ := Aside0.mk (below_step (by repeat (first | (with_reducible first | exact HB.out | apply below_alloc | apply pw_below_drewN | apply below_drew1) | exact HB.out)) hb); clear HB; have HB := n_; clear n_; have n_ := Aside0.mk (blk_below (o := .cells #[.slice A m e] 24 (0, 0)) (g := w1.heap.size) (by repeat (first | exact BS.out | (with_reducible refine blk_drewN ?_ _) | (with_reducible refine blk_drew ?_))) hb); have n2_ := Aside0.mk (ARow.below (ARow.below HA.out (by repeat (first | (with_reducible first | exact HL.out | apply below_alloc | apply pw_below_drewN | apply below_drew1) | exact HL.out))) hb); clear qBS_0 lBS fBS; clear BS HA; have BS := n_; have HA := n2_; clear n_ n2_; have qBS_0 := blk_cell BS.out 0; have lBS := blk_lt BS.out; simp only [List.getElem?_toArray, List.getElem?_cons_zero, List.getElem?_cons_succ] at qBS_0; have fBS := blk_frozen BS.out 0; have HC1 := Aside0.mk hC; clear hC HC HL hb; have HL := Aside0.mk (Below.refl w6.heap.size w6)))
          all_goals go_wp2
          all_goals go_roundw
          all_goals (try (case rel => first | exact ⟨2, A1, m1, e1, by go_num, by omega, hme1, by omega, ⟨below_set HB.out hg0⟩, ⟨blk_put BS.out _⟩, ⟨C_box HC1.out BS.out _⟩, ⟨ARow.put HA.out BS.out _⟩⟩ | ((repeat apply Exists.intro); exact ⟨⟨2, A1, m1, e1, by go_num, by omega, hme1, by omega, ⟨below_set HB.out hg0⟩, ⟨blk_put BS.out _⟩, ⟨C_box HC1.out BS.out _⟩, ⟨ARow.put HA.out BS.out _⟩⟩, rfl⟩)))
          all_goals (try (case measure => (simp [intOf])))
        · rw [show ((2 : Nat) : Int) = 2 from rfl]
          have d := int_at' HA.out.C.1 1 n1 rfl
          have d' : wr.cell? ⟨ad.block, ad.off + 1, none⟩ = some (.int .i64 n1) := d
          have hw3 : IntKind.i64.wrap 6 = 6 := by decide
          have HAD := Aside0.mk (show addL (adds [] ([n0, n3, n1, n4, n2].take 2)) n1 = adds [] ([n0, n3, n1, n4, n2].take (2 + 1)) from (adds_take (L := []) (l := [n0, n3, n1, n4, n2]) 2 n1 rfl).symm)
          have ht3 : Int.tmod 6 5 = 1 := by decide
          go_wp2
          go_region_law (first | (refine goes_ Try.func11 (by kernel_rfl) rfl #[.agg #[.slice A m e], .int .i64 n1] (by rfl) rfl rfl (by simp only [List.map_toArray, List.map_cons, List.map_nil]; rfl) ?_; refine (add_n (Kd.C_below HC.out (by repeat (first | (with_reducible first | exact HL.out | apply below_alloc | apply pw_below_drewN | apply below_drew1) | exact HL.out))) hme (by omega) n1 _ HAD.out).mono ?_; rintro e w6 ⟨A1, m1, e1, rfl, hC, hme1, hm1, hb⟩; refine ⟨_, rfl, ?_⟩; have n_ := Aside0.mk (below_step (by repeat (first | (with_reducible first | exact HB.out | apply below_alloc | apply pw_below_drewN | apply below_drew1) | exact HB.out)) hb); clear HB; have HB := n_; clear n_; have n_ := Aside0.mk (blk_below (o := .cells #[.slice A m e] 24 (0, 0)) (g := w1.heap.size) (by repeat (first | exact BS.out | (with_reducible refine blk_drewN ?_ _) | (with_reducible refine blk_drew ?_))) hb); have n2_ := Aside0.mk (ARow.below (ARow.below HA.out (by repeat (first | (with_reducible first | exact HL.out | apply below_alloc | apply pw_below_drewN | apply below_drew1) | exact HL.out))) hb); clear qBS_0 lBS fBS; clear BS HA; have BS := n_; have HA := n2_; clear n_ n2_; have qBS_0 := blk_cell BS.out 0; have lBS := blk_lt BS.out; simp only [List.getElem?_toArray, List.getElem?_cons_zero, List.getElem?_cons_succ] at qBS_0; have fBS := blk_frozen BS.out 0; have HC1 := Aside0.mk hC; clear hC HC HL hb; have HL := Aside0.mk (Below.refl w6.heap.size w6)))
          all_goals go_wp2
          all_goals go_roundw
          all_goals (try (case rel => first | exact ⟨3, A1, m1, e1, by go_num, by omega, hme1, by omega, ⟨below_set HB.out hg0⟩, ⟨blk_put BS.out _⟩, ⟨C_box HC1.out BS.out _⟩, ⟨ARow.put HA.out BS.out _⟩⟩ | ((repeat apply Exists.intro); exact ⟨⟨3, A1, m1, e1, by go_num, by omega, hme1, by omega, ⟨below_set HB.out hg0⟩, ⟨blk_put BS.out _⟩, ⟨C_box HC1.out BS.out _⟩, ⟨ARow.put HA.out BS.out _⟩⟩, rfl⟩)))
          all_goals (try (case measure => (simp [intOf])))
        · rw [show ((3 : Nat) : Int) = 3 from rfl]
          have d := int_at' HA.out.C.1 4 n4 rfl
          have d' : wr.cell? ⟨ad.block, ad.off + 4, none⟩ = some (.int .i64 n4) := d
          have hw3 : IntKind.i64.wrap 9 = 9 := by decide
          have HAD := Aside0.mk (show addL (adds [] ([n0, n3, n1, n4, n2].take 3)) n4 = adds [] ([n0, n3, n1, n4, n2].take (3 + 1)) from (adds_take (L := []) (l := [n0, n3, n1, n4, n2]) 3 n4 rfl).symm)
          have ht3 : Int.tmod 9 5 = 4 := by decide
          go_wp2
          go_region_law (first | (refine goes_ Try.func11 (by kernel_rfl) rfl #[.agg #[.slice A m e], .int .i64 n4] (by rfl) rfl rfl (by simp only [List.map_toArray, List.map_cons, List.map_nil]; rfl) ?_; refine (add_n (Kd.C_below HC.out (by repeat (first | (with_reducible first | exact HL.out | apply below_alloc | apply pw_below_drewN | apply below_drew1) | exact HL.out))) hme (by omega) n4 _ HAD.out).mono ?_; rintro e w6 ⟨A1, m1, e1, rfl, hC, hme1, hm1, hb⟩; refine ⟨_, rfl, ?_⟩; have n_ := Aside0.mk (below_step (by repeat (first | (with_reducible first | exact HB.out | apply below_alloc | apply pw_below_drewN | apply below_drew1) | exact HB.out)) hb); clear HB; have HB := n_; clear n_; have n_ := Aside0.mk (blk_below (o := .cells #[.slice A m e] 24 (0, 0)) (g := w1.heap.size) (by repeat (first | exact BS.out | (with_reducible refine blk_drewN ?_ _) | (with_reducible refine blk_drew ?_))) hb); have n2_ := Aside0.mk (ARow.below (ARow.below HA.out (by repeat (first | (with_reducible first | exact HL.out | apply below_alloc | apply pw_below_drewN | apply below_drew1) | exact HL.out))) hb); clear qBS_0 lBS fBS; clear BS HA; have BS := n_; have HA := n2_; clear n_ n2_; have qBS_0 := blk_cell BS.out 0; have lBS := blk_lt BS.out; simp only [List.getElem?_toArray, List.getElem?_cons_zero, List.getElem?_cons_succ] at qBS_0; have fBS := blk_frozen BS.out 0; have HC1 := Aside0.mk hC; clear hC HC HL hb; have HL := Aside0.mk (Below.refl w6.heap.size w6)))
          all_goals go_wp2
          all_goals go_roundw
          all_goals (try (case rel => first | exact ⟨4, A1, m1, e1, by go_num, by omega, hme1, by omega, ⟨below_set HB.out hg0⟩, ⟨blk_put BS.out _⟩, ⟨C_box HC1.out BS.out _⟩, ⟨ARow.put HA.out BS.out _⟩⟩ | ((repeat apply Exists.intro); exact ⟨⟨4, A1, m1, e1, by go_num, by omega, hme1, by omega, ⟨below_set HB.out hg0⟩, ⟨blk_put BS.out _⟩, ⟨C_box HC1.out BS.out _⟩, ⟨ARow.put HA.out BS.out _⟩⟩, rfl⟩)))
          all_goals (try (case measure => (simp [intOf])))
        · rw [show ((4 : Nat) : Int) = 4 from rfl]
          have d := int_at' HA.out.C.1 2 n2 rfl
          have d' : wr.cell? ⟨ad.block, ad.off + 2, none⟩ = some (.int .i64 n2) := d
          have hw3 : IntKind.i64.wrap 12 = 12 := by decide
          have HAD := Aside0.mk (show addL (adds [] ([n0, n3, n1, n4, n2].take 4)) n2 = adds [] ([n0, n3, n1, n4, n2].take (4 + 1)) from (adds_take (L := []) (l := [n0, n3, n1, n4, n2]) 4 n2 rfl).symm)
          have ht3 : Int.tmod 12 5 = 2 := by decide
          go_wp2
          go_region_law (first | (refine goes_ Try.func11 (by kernel_rfl) rfl #[.agg #[.slice A m e], .int .i64 n2] (by rfl) rfl rfl (by simp only [List.map_toArray, List.map_cons, List.map_nil]; rfl) ?_; refine (add_n (Kd.C_below HC.out (by repeat (first | (with_reducible first | exact HL.out | apply below_alloc | apply pw_below_drewN | apply below_drew1) | exact HL.out))) hme (by omega) n2 _ HAD.out).mono ?_; rintro e w6 ⟨A1, m1, e1, rfl, hC, hme1, hm1, hb⟩; refine ⟨_, rfl, ?_⟩; have n_ := Aside0.mk (below_step (by repeat (first | (with_reducible first | exact HB.out | apply below_alloc | apply pw_below_drewN | apply below_drew1) | exact HB.out)) hb); clear HB; have HB := n_; clear n_; have n_ := Aside0.mk (blk_below (o := .cells #[.slice A m e] 24 (0, 0)) (g := w1.heap.size) (by repeat (first | exact BS.out | (with_reducible refine blk_drewN ?_ _) | (with_reducible refine blk_drew ?_))) hb); have n2_ := Aside0.mk (ARow.below (ARow.below HA.out (by repeat (first | (with_reducible first | exact HL.out | apply below_alloc | apply pw_below_drewN | apply below_drew1) | exact HL.out))) hb); clear qBS_0 lBS fBS; clear BS HA; have BS := n_; have HA := n2_; clear n_ n2_; have qBS_0 := blk_cell BS.out 0; have lBS := blk_lt BS.out; simp only [List.getElem?_toArray, List.getElem?_cons_zero, List.getElem?_cons_succ] at qBS_0; have fBS := blk_frozen BS.out 0; have HC1 := Aside0.mk hC; clear hC HC HL hb; have HL := Aside0.mk (Below.refl w6.heap.size w6)))
          all_goals go_wp2
          all_goals go_roundw
          all_goals (try (case rel => first | exact ⟨5, A1, m1, e1, by go_num, by omega, hme1, by omega, ⟨below_set HB.out hg0⟩, ⟨blk_put BS.out _⟩, ⟨C_box HC1.out BS.out _⟩, ⟨ARow.put HA.out BS.out _⟩⟩ | ((repeat apply Exists.intro); exact ⟨⟨5, A1, m1, e1, by go_num, by omega, hme1, by omega, ⟨below_set HB.out hg0⟩, ⟨blk_put BS.out _⟩, ⟨C_box HC1.out BS.out _⟩, ⟨ARow.put HA.out BS.out _⟩⟩, rfl⟩)))
          all_goals (try (case measure => (simp [intOf])))
      · obtain rfl : j = 5 := by omega
        obtain ⟨S, hS⟩ : ∃ S, adds [] ([n0, n3, n1, n4, n2].take 5) = S := ⟨_, rfl⟩
        rw [show ([n0, n3, n1, n4, n2].take 5) = [n0, n3, n1, n4, n2] from rfl] at hS HC
        obtain ⟨k1, k2, k3, k4, k5⟩ := merged_ok n0 n1 n2 n3 n4 (by omega) (by omega) (by omega) (by omega) (by omega) (by omega) S hS
        rw [hS] at HC
        obtain rfl : m = 4 := by rw [← HC.out.1]; exact k1
        have HK1 := Aside0.mk (show ∀ x ∈ [n0, n1, n2, n3, n4], -1 ≤ x ∧ x ≤ 2000 by
          intro x hx
          simp only [List.mem_cons, List.not_mem_nil, or_false] at hx
          rcases hx with h | h | h | h | h <;> omega)
        have HK2 := Aside0.mk k2
        have HK3 := Aside0.mk k3
        have HK4 := Aside0.mk k4
        have HK5 := Aside0.mk k5
        have hca : 5 ≤ ca := ARow.cap HA.out
        clear k1 k2 k3 k4 k5 hS
        go_wp2_with (first | (go_at_call 24; (with_reducible refine (merged_c (Kd.C_below HC.out (by repeat (first | (with_reducible first | exact HL.out | apply below_alloc | apply pw_below_drewN | apply below_drew1) | exact HL.out))) (ARow.below HA.out (by repeat (first | (with_reducible first | exact HL.out | apply below_alloc | apply pw_below_drewN | apply below_drew1) | exact HL.out))).C.1 hme (by omega) (by omega) (by omega) (by omega) HK1.out HK2.out HK3.out HK4.out HK5.out).mono ?_); rintro e w9 ⟨rfl, hb⟩; have n0_ := Aside0.mk (below_step (by repeat (first | (with_reducible first | exact HB.out | apply below_alloc | apply pw_below_drewN | apply below_drew1) | exact HB.out)) hb); clear HB; have HB := n0_; clear n0_; have hs_ := below_step (by repeat (first | (with_reducible first | exact HL.out | apply below_alloc | apply pw_below_drewN | apply below_drew1) | exact HL.out)) hb; have n_ := Aside0.mk (blk_below BS.out hs_); clear qBS_0 lBS fBS; clear BS; have BS := n_; clear n_; have qBS_0 := blk_cell BS.out 0; have lBS := blk_lt BS.out; simp only [List.getElem?_toArray, List.getElem?_cons_zero, List.getElem?_cons_succ] at qBS_0; have fBS := blk_frozen BS.out 0; clear HL hs_ hb; have HL := Aside0.mk (Below.refl w9.heap.size w9)))
        all_goals (try (exfalso; omega))
        all_goals go_ret
        all_goals exact ⟨rfl, (by repeat (first | (with_reducible first | exact HB.out | apply below_alloc | apply pw_below_drewN | apply below_drew1) | exact HB.out))⟩
theorem SpansMerge_walk (y : List Int) (l : Array Value) (w : World) (hk : ∀ W', Has w W' → (Kd.arr 5 (Kd.int .u8) (by decide)).K W' y l.toList) (hg : y.length = 5 ∧ ∀ x ∈ y, (fun n => (Lit.int .u8 n).wf = true) x) :
    Calls Try.prog 7 #[.agg l] w fun e W' => e = .returned (.bool true) ∧ Below w.heap.size w W' := by
  have hK := hk w (Has.refl w)
  obtain ⟨hy, hw⟩ := hg
  match y, hy, hK, hw with
  | [l0, l1, l2, l3, l4], _, hK, hw =>
    obtain rfl : l = #[.int .u8 l0, .int .u8 l1, .int .u8 l2, .int .u8 l3, .int .u8 l4] := Array.toList_inj.1 (Kd.arr_cells hK).2
    have hb : ∀ x ∈ [l0, l1, l2, l3, l4], 0 ≤ x ∧ x ≤ 255 := fun x hx => by
      have h := hw x hx
      simp [Lit.wf, IntKind.min, IntKind.max, IntKind.signed, IntKind.bits] at h
      omega
    exact merge_walk l0 l1 l2 l3 l4 (hb l0 (by simp)) (hb l1 (by simp)) (hb l2 (by simp)) (hb l3 (by simp)) (hb l4 (by simp))
end Go.Proofs.Ytoidaakmmnlhgaa.Hand
