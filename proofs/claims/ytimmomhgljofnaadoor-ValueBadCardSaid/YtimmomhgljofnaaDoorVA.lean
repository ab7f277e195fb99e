/- Chapter 8: value.reckon, what it comes to. -/
import Derived.Test.YtimmomhgljofnaaDoorV7
import Derived.Test.YtimmomhgljofnaaDoorV9
import Derived.Test.YtimmomhgljofnaaDoorW2
set_option linter.unusedVariables false
set_option linter.unusedSimpArgs false
namespace Go.Proofs.YtimmomhgljofnaaDoor.Hand
open Go.Proofs.YtimmomhgljofnaaDoor.PValueBad
open Go.RowKit Go.Proofs.YtimmomhgljofnaaDoorW.PrintWords Go.Proofs.YtimmomhgljofnaaDoorW.PrintLast Go.Proofs.YtimmomhgljofnaaDoorW.PrintMore
/-- What an expression comes to. -/
inductive Vl where
  | bad
  | num (n : Int)
  | tr (b : Bool)
def vW : Vl → Value
  | .bad => .iface 80 (.agg #[])
  | .num n => .iface 2 (.int .i64 n)
  | .tr b => .iface 4 (.bool b)
theorem ta_bb (w : World) : (Instr.typeAssert (.iface 80 (.agg #[])) 20 4 true).run Tryd.prog w = .ok (.tuple #[.bool false, .bool false]) w := by kernel_rfl
theorem ta_bt (w : World) (b : Bool) : (Instr.typeAssert (.iface 4 (.bool b)) 20 4 true).run Tryd.prog w = .ok (.tuple #[.bool b, .bool true]) w := by kernel_rfl
theorem ta_bn (w : World) (a : Int) : (Instr.typeAssert (.iface 2 (.int .i64 a)) 20 4 true).run Tryd.prog w = .ok (.tuple #[.bool false, .bool false]) w := by kernel_rfl
theorem ta_nb (w : World) : (Instr.typeAssert (.iface 80 (.agg #[])) 20 2 true).run Tryd.prog w = .ok (.tuple #[.int .i64 0, .bool false]) w := by kernel_rfl
theorem ta_nt (w : World) (b : Bool) : (Instr.typeAssert (.iface 4 (.bool b)) 20 2 true).run Tryd.prog w = .ok (.tuple #[.int .i64 0, .bool false]) w := by kernel_rfl
theorem ta_nn (w : World) (a : Int) : (Instr.typeAssert (.iface 2 (.int .i64 a)) 20 2 true).run Tryd.prog w = .ok (.tuple #[.int .i64 a, .bool true]) w := by kernel_rfl
def numV (p : Int × Bool) : Vl := if p.2 then .num p.1 else .bad
def arith (op : ByteArray) (a c : Int) : Vl := if eqS op [61, 61] then .tr (decide (a = c)) else if eqS op [33, 61] then .tr (a != c) else if eqS op [60] then .tr (decide (a < c)) else if eqS op [60, 61] then .tr (decide (a ≤ c)) else if eqS op [62] then .tr (decide (c < a)) else if eqS op [62, 61] then .tr (decide (c ≤ a)) else if eqS op [43] then numV (okF (a + c)) else if eqS op [45] then numV (okF (a - c)) else if eqS op [42] then numV (okF (a * c)) else if eqS op [47] then numV (divF a c) else numV (remF a c)
def comb (k : Int) (op : ByteArray) : List Vl → Vl
  | .tr b :: r => if eqS op [33] then .tr (!b) else if b == eqS op [124, 124] then .tr b else (match r with
    | y :: _ => y
    | [] => .bad)
  | .num a :: r => if k = 2 then numV (okF (0 - a)) else (match r with
    | .num c :: _ => arith op a c
    | _ => .bad)
  | _ => .bad
mutual
def reckonE (B : List S55) : S24 → Vl
  | ⟨k, op, n, v, f, kids⟩ => if k = 0 then .num n else if k = 1 then numV (lookF B v f) else comb k op (reckonL B kids)
def reckonL (B : List S55) : List S24 → List Vl
  | [] => []
  | x :: r => reckonE B x :: reckonL B r
end
mutual
/-- Each number is one of 64 bits. -/
def InE : S24 → Prop
  | ⟨_, _, n, _, _, kids⟩ => InI n ∧ InK kids
def InK : List S24 → Prop
  | [] => True
  | x :: r => InE x ∧ InK r
end
def InB (B : List S55) : Prop := ∀ y ∈ B, ∀ n ∈ y.f2, InI n
def NumR (v : Vl) : Prop := v = .bad ∨ ∃ n, InI n ∧ v = .num n
def TrR (v : Vl) : Prop := v = .bad ∨ ∃ b, v = .tr b
theorem okF_num (n : Int) : NumR (numV (okF n)) := by
  unfold okF numV
  by_cases h : InI n
  · rw [if_pos h]; exact .inr ⟨n, h, rfl⟩
  · rw [if_neg h]; exact .inl rfl
theorem divF_num {a b : Int} (ha : InI a) : NumR (numV (divF a b)) := by
  unfold divF numV
  by_cases h : b = 0 ∨ (a = -9223372036854775808 ∧ b = -1)
  · rw [if_pos h]; exact .inl rfl
  · rw [if_neg h]; exact .inr ⟨_, tdiv_in ha h, rfl⟩
theorem remF_num {a b : Int} (hb : InI b) : NumR (numV (remF a b)) := by
  unfold remF numV
  by_cases h : b = 0 ∨ (a = -9223372036854775808 ∧ b = -1)
  · rw [if_pos h]; exact .inl rfl
  · rw [if_neg h]
    refine .inr ⟨_, ?_, rfl⟩
    have h0 : b ≠ 0 := fun e => h (.inl e)
    have h1 := Int.natAbs_tmod a b
    have h2 : a.natAbs % b.natAbs < b.natAbs := Nat.mod_lt _ (by omega)
    unfold InI at *
    omega
theorem lookF_num {B : List S55} (hB : InB B) (v f : ByteArray) : NumR (numV (lookF B v f)) := by
  have hl : ∀ {B : List S55} {y : S55}, lastB v B = some y → y ∈ B := by
    intro B
    induction B with
    | nil => intro y h; cases h
    | cons x r ih =>
      intro y h
      rw [lastB] at h
      cases hr : lastB v r with
      | some z =>
        rw [hr] at h
        have := Option.some.inj h
        subst this
        exact List.mem_cons_of_mem _ (ih hr)
      | none =>
        rw [hr] at h
        simp only at h
        split at h
        · have := Option.some.inj h
          subst this
          exact List.mem_cons_self ..
        · cases h
  unfold lookF
  cases hb : lastB v B with
  | none => exact .inl rfl
  | some y =>
    have hm := hB y (hl hb)
    simp only
    unfold binF
    split
    · exact .inl rfl
    · rename_i h
      refine .inr ⟨_, ?_, rfl⟩
      rw [List.getD_eq_getElem?_getD, List.getElem?_eq_getElem (by omega)]
      exact hm _ (List.getElem_mem _)
theorem kid0 {W : World} {ad : Addr} {n : Nat} {y : S24} {r : List S24} (h : Kd.C k24 W (some ad) n (y :: r)) : ∃ A5 c5, W.cell? ad = some (.int .i64 y.f0) ∧ W.cell? ⟨ad.block, ad.off + 1, none⟩ = some (.string y.f1) ∧ W.cell? ⟨ad.block, ad.off + 2, none⟩ = some (.int .i64 y.f2) ∧ W.cell? ⟨ad.block, ad.off + 3, none⟩ = some (.string y.f3) ∧ W.cell? ⟨ad.block, ad.off + 4, none⟩ = some (.string y.f4) ∧ W.cell? ⟨ad.block, ad.off + 5, none⟩ = some (.slice A5 y.f5.length c5) ∧ y.f5.length ≤ c5 ∧ Kd.C k24 W A5 y.f5.length y.f5 := ex_at h 0 y rfl
theorem kid1 {W : World} {ad : Addr} {n : Nat} {y z : S24} {r : List S24} (h : Kd.C k24 W (some ad) n (y :: z :: r)) : ∃ A5 c5, W.cell? ⟨ad.block, ad.off + 6, none⟩ = some (.int .i64 z.f0) ∧ W.cell? ⟨ad.block, ad.off + 6 + 1, none⟩ = some (.string z.f1) ∧ W.cell? ⟨ad.block, ad.off + 6 + 2, none⟩ = some (.int .i64 z.f2) ∧ W.cell? ⟨ad.block, ad.off + 6 + 3, none⟩ = some (.string z.f3) ∧ W.cell? ⟨ad.block, ad.off + 6 + 4, none⟩ = some (.string z.f4) ∧ W.cell? ⟨ad.block, ad.off + 6 + 5, none⟩ = some (.slice A5 z.f5.length c5) ∧ z.f5.length ≤ c5 ∧ Kd.C k24 W A5 z.f5.length z.f5 := ex_at h 1 z rfl
set_option maxHeartbeats 1000000 in
set_option maxRecDepth 100000 in
theorem num_c {W : World} (n : Int) (ok : Bool) : Calls Tryd.prog 47 #[.int .i64 n, .bool ok] W fun e w' => e = .returned (vW (numV (n, ok))) ∧ Below W.heap.size W w' := by
  have HB := Aside0.mk (Below.refl W.heap.size W)
  cases ok
  · go_enter Tryd.func47, Tryd.ntmps47
    go_wp2
    all_goals go_ret
    all_goals exact ⟨rfl, (by repeat (first | (with_reducible first | exact HB.out | apply below_alloc | apply pw_below_drewN | apply below_drew1) | exact HB.out))⟩
  · go_enter Tryd.func47, Tryd.ntmps47
    go_wp2
    all_goals go_ret
    all_goals exact ⟨rfl, (by repeat (first | (with_reducible first | exact HB.out | apply below_alloc | apply pw_below_drewN | apply below_drew1) | exact HB.out))⟩
end Go.Proofs.YtimmomhgljofnaaDoor.Hand
