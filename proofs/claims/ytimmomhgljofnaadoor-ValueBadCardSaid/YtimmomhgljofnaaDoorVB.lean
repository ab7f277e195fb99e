/- Chapter 8: what an expression comes to has its type. -/
import Derived.Test.YtimmomhgljofnaaDoorVA
set_option linter.unusedVariables false
set_option linter.unusedSimpArgs false
namespace Go.Proofs.YtimmomhgljofnaaDoor.Hand
open Go.Proofs.YtimmomhgljofnaaDoor.PValueBad
open Go.RowKit Go.Proofs.YtimmomhgljofnaaDoorW.PrintWords Go.Proofs.YtimmomhgljofnaaDoorW.PrintLast Go.Proofs.YtimmomhgljofnaaDoorW.PrintMore
theorem len_one {α : Type} {l : List α} (h : l.length = 1) : ∃ y, l = [y] := by
  match l, h with
  | [y], _ => exact ⟨y, rfl⟩
theorem len_two {α : Type} {l : List α} (h : l.length = 2) : ∃ y z, l = [y, z] := by
  match l, h with
  | [y, z], _ => exact ⟨y, z, rfl⟩
theorem right_kinds {nm : ByteArray → Bool} {k n : Int} {op v f : ByteArray} {kids : List S24} (h : rightE nm ⟨k, op, n, v, f, kids⟩ = true) :
    (k = 0 ∧ kids = []) ∨ (k = 1 ∧ kids = []) ∨ (k = 2 ∧ (eqS op [45] || eqS op [33]) = true ∧ ∃ y, kids = [y] ∧ rightE nm y = true) ∨ (k = 3 ∧ 0 < lvl op ∧ ∃ y z, kids = [y, z] ∧ rightE nm y = true ∧ rightE nm z = true) := by
  rw [rightE] at h
  simp only [Bool.and_eq_true] at h
  obtain ⟨h1, ⟨h2, _⟩, _, h5⟩ := h
  have hlen : (kids.length : Int) = formKids k := by simpa using h2
  unfold formOk at h1
  unfold formKids at hlen
  by_cases k0 : k = 0
  · refine .inl ⟨k0, List.eq_nil_of_length_eq_zero ?_⟩
    rw [k0] at hlen
    simp at hlen
    exact List.length_eq_zero_iff.2 hlen
  by_cases k1 : k = 1
  · refine .inr (.inl ⟨k1, List.eq_nil_of_length_eq_zero ?_⟩)
    rw [k1] at hlen
    simp at hlen
    exact List.length_eq_zero_iff.2 hlen
  by_cases k2 : k = 2
  · subst k2
    simp only [show ¬(2 : Int) = 0 by decide, show ¬(2 : Int) = 1 by decide, if_false, if_true, Bool.and_eq_true] at h1 hlen
    obtain ⟨y, rfl⟩ := len_one (l := kids) (by omega)
    rw [rightL, Bool.and_eq_true] at h5
    exact .inr (.inr (.inl ⟨rfl, h1.2, y, rfl, h5.1⟩))
  by_cases k3 : k = 3
  · subst k3
    simp only [show ¬(3 : Int) = 0 by decide, show ¬(3 : Int) = 1 by decide, show ¬(3 : Int) = 2 by decide, if_false, if_true, Bool.and_eq_true] at h1 hlen
    obtain ⟨y, z, rfl⟩ := len_two (l := kids) (by omega)
    rw [rightL, rightL, Bool.and_eq_true, Bool.and_eq_true] at h5
    exact .inr (.inr (.inr ⟨rfl, by simpa using h1.2, y, z, rfl, h5.1, h5.2.1⟩))
  · simp [k0, k1, k2, k3] at h1
theorem types_one {k n : Int} {op v f : ByteArray} {y : S24} (hk : ¬k < 2) (h : typesE ⟨k, op, n, v, f, [y]⟩ ≠ 0) : typesE y = wantE k op ∧ typesE ⟨k, op, n, v, f, [y]⟩ = isE k op := by
  rw [typesE, if_neg hk] at h ⊢
  rw [typesL, typesL] at h ⊢
  cases hy : typesE y == wantE k op
  · rw [hy] at h; simp at h
  · exact ⟨by simpa using hy, by simp⟩
theorem types_two {k n : Int} {op v f : ByteArray} {y z : S24} (hk : ¬k < 2) (h : typesE ⟨k, op, n, v, f, [y, z]⟩ ≠ 0) : typesE y = wantE k op ∧ typesE z = wantE k op ∧ typesE ⟨k, op, n, v, f, [y, z]⟩ = isE k op := by
  rw [typesE, if_neg hk] at h ⊢
  rw [typesL, typesL, typesL] at h ⊢
  cases hy : typesE y == wantE k op
  · rw [hy] at h; simp at h
  · cases hz : typesE z == wantE k op
    · rw [hz] at h; simp at h
    · exact ⟨by simpa using hy, by simpa using hz, by simp⟩
theorem tl0 : (⟨#[124, 124]⟩ : ByteArray).toList = [124, 124] := by decide +kernel
theorem tl1 : (⟨#[38, 38]⟩ : ByteArray).toList = [38, 38] := by decide +kernel
theorem tl2 : (⟨#[61, 61]⟩ : ByteArray).toList = [61, 61] := by decide +kernel
theorem tl3 : (⟨#[33, 61]⟩ : ByteArray).toList = [33, 61] := by decide +kernel
theorem tl4 : (⟨#[60]⟩ : ByteArray).toList = [60] := by decide +kernel
theorem tl5 : (⟨#[60, 61]⟩ : ByteArray).toList = [60, 61] := by decide +kernel
theorem tl6 : (⟨#[62]⟩ : ByteArray).toList = [62] := by decide +kernel
theorem tl7 : (⟨#[62, 61]⟩ : ByteArray).toList = [62, 61] := by decide +kernel
theorem tl8 : (⟨#[43]⟩ : ByteArray).toList = [43] := by decide +kernel
theorem tl9 : (⟨#[45]⟩ : ByteArray).toList = [45] := by decide +kernel
theorem tl10 : (⟨#[42]⟩ : ByteArray).toList = [42] := by decide +kernel
theorem tl11 : (⟨#[47]⟩ : ByteArray).toList = [47] := by decide +kernel
theorem tl12 : (⟨#[37]⟩ : ByteArray).toList = [37] := by decide +kernel
theorem lvl_eq (op : ByteArray) : lvl op = if eqS op [124, 124] then 1 else if eqS op [38, 38] then 2 else if eqS op [61, 61] || eqS op [33, 61] then 3 else if eqS op [60] || (eqS op [60, 61] || (eqS op [62] || eqS op [62, 61])) then 4 else if eqS op [43] || eqS op [45] then 5 else if eqS op [42] || (eqS op [47] || eqS op [37]) then 6 else 0 := by
  unfold lvl LV eqS
  simp only [idxB, inL, List.any_cons, List.any_nil, Bool.or_false, tl0, tl1, tl2, tl3, tl4, tl5, tl6, tl7, tl8, tl9, tl10, tl11, tl12]
  generalize (op.toList == [124, 124]) = c1
  generalize (op.toList == [38, 38]) = c2
  generalize (op.toList == [61, 61] || op.toList == [33, 61]) = c3
  generalize (op.toList == [60] || (op.toList == [60, 61] || (op.toList == [62] || op.toList == [62, 61]))) = c4
  generalize (op.toList == [43] || op.toList == [45]) = c5
  generalize (op.toList == [42] || (op.toList == [47] || op.toList == [37])) = c6
  cases c1 <;> cases c2 <;> cases c3 <;> cases c4 <;> cases c5 <;> cases c6 <;> rfl
theorem eqS_one {op : ByteArray} {l m : List UInt8} (h : eqS op l = true) : eqS op m = (l == m) := by
  have e : op.toList = l := by simpa [eqS] using h
  unfold eqS
  rw [e]
theorem lvl_bang {op : ByteArray} (h : 0 < lvl op) : eqS op [33] = false := by
  cases e : eqS op [33]
  · rfl
  · exfalso
    rw [lvl_eq] at h
    simp only [eqS_one e] at h
    revert h
    decide
theorem arith_tr {op : ByteArray} (h3 : ¬lvl op < 3) (h5 : lvl op < 5) (a c : Int) : TrR (arith op a c) := by
  rw [lvl_eq] at h3 h5
  unfold arith
  cases e1 : eqS op [61, 61]
  · cases e2 : eqS op [33, 61]
    · cases e3 : eqS op [60]
      · cases e4 : eqS op [60, 61]
        · cases e5 : eqS op [62]
          · cases e6 : eqS op [62, 61]
            · exfalso
              simp only [e1, e2, e3, e4, e5, e6, Bool.or_false, Bool.false_eq_true, if_false] at h3 h5
              split at h3
              · omega
              · split at h3
                · omega
                · rename_i q1 q2
                  rw [if_neg q1, if_neg q2] at h5
                  split at h3
                  · rename_i q3
                    rw [if_pos q3] at h5
                    omega
                  · rename_i q3
                    rw [if_neg q3] at h5
                    split at h3
                    · rename_i q4
                      rw [if_pos q4] at h5
                      omega
                    · omega
            · simp; exact .inr ⟨_, rfl⟩
          · simp; exact .inr ⟨_, rfl⟩
        · simp; exact .inr ⟨_, rfl⟩
      · simp; exact .inr ⟨_, rfl⟩
    · simp; exact .inr ⟨_, rfl⟩
  · simp; exact .inr ⟨_, rfl⟩
theorem arith_num {op : ByteArray} (h5 : ¬lvl op < 5) {a c : Int} (ha : InI a) (hc : InI c) : NumR (arith op a c) := by
  rw [lvl_eq] at h5
  have hf : ∀ l : List UInt8, l = [61, 61] ∨ l = [33, 61] ∨ l = [60] ∨ l = [60, 61] ∨ l = [62] ∨ l = [62, 61] → eqS op l = false := by
    intro l hl
    cases e : eqS op l
    · rfl
    · exfalso
      simp only [eqS_one e] at h5
      rcases hl with rfl | rfl | rfl | rfl | rfl | rfl <;> exact h5 (by decide)
  unfold arith
  rw [hf [61, 61] (by simp), hf [33, 61] (by simp), hf [60] (by simp), hf [60, 61] (by simp), hf [62] (by simp), hf [62, 61] (by simp)]
  simp only [Bool.false_eq_true, if_false]
  split
  · exact okF_num _
  · split
    · exact okF_num _
    · split
      · exact okF_num _
      · split
        · exact divF_num ha
        · exact remF_num hc
theorem want2n {op : ByteArray} (h : eqS op [33] = false) : wantE 2 op = 1 ∧ isE 2 op = 1 := by constructor <;> simp [wantE, isE, h]
theorem want2y {op : ByteArray} (h : eqS op [33] = true) : wantE 2 op = 2 ∧ isE 2 op = 2 := by constructor <;> simp [wantE, isE, h]
theorem want3a {op : ByteArray} (h : lvl op < 3) : wantE 3 op = 2 ∧ isE 3 op = 2 := by constructor <;> simp [wantE, isE, h]
theorem want3b {op : ByteArray} (h : ¬lvl op < 3) (h5 : lvl op < 5) : wantE 3 op = 1 ∧ isE 3 op = 2 := by constructor <;> simp [wantE, isE, h, h5]
theorem want3c {op : ByteArray} (h : ¬lvl op < 3) (h5 : ¬lvl op < 5) : wantE 3 op = 1 ∧ isE 3 op = 1 := by constructor <;> simp [wantE, isE, h, h5]
theorem comb_bang {k : Int} {op : ByteArray} {b : Bool} {r : List Vl} (h : eqS op [33] = true) : comb k op (.tr b :: r) = .tr (!b) := by simp [comb, h]
theorem comb_short {k : Int} {op : ByteArray} {b : Bool} {r : List Vl} (h : eqS op [33] = false) (h2 : (b == eqS op [124, 124]) = true) : comb k op (.tr b :: r) = .tr b := by simp [comb, h, h2]
theorem comb_next {k : Int} {op : ByteArray} {b : Bool} {y : Vl} {r : List Vl} (h : eqS op [33] = false) (h2 : (b == eqS op [124, 124]) = false) : comb k op (.tr b :: y :: r) = y := by simp [comb, h, h2]
theorem comb_neg {op : ByteArray} {a : Int} {r : List Vl} : comb 2 op (.num a :: r) = numV (okF (0 - a)) := by simp [comb]
theorem comb_bad {k : Int} {op : ByteArray} {r : List Vl} : comb k op (.bad :: r) = .bad := rfl
theorem comb_ar {op : ByteArray} {a c : Int} {r : List Vl} : comb 3 op (.num a :: .num c :: r) = arith op a c := by simp [comb]
theorem comb_arb {op : ByteArray} {a : Int} {r : List Vl} : comb 3 op (.num a :: .bad :: r) = .bad := by simp [comb]
theorem reck_typ (nm : ByteArray → Bool) {B : List S55} (hB : InB B) : ∀ (d : Nat) (x : S24), SizeOf.sizeOf x ≤ d → rightE nm x = true → InE x → typesE x ≠ 0 → (typesE x = 1 ∧ NumR (reckonE B x)) ∨ (typesE x = 2 ∧ TrR (reckonE B x)) := by
  intro d
  induction d with
  | zero =>
    intro x hx
    have : 0 < SizeOf.sizeOf x := by cases x; simp only [S24.mk.sizeOf_spec]; omega
    omega
  | succ d ih =>
    intro x hx hr hI ht
    obtain ⟨k, op, n, v, f, kids⟩ := x
    simp only [S24.mk.sizeOf_spec] at hx
    rw [InE] at hI
    rcases right_kinds hr with ⟨rfl, rfl⟩ | ⟨rfl, rfl⟩ | ⟨rfl, hop, y, rfl, hy⟩ | ⟨rfl, hlv, y, z, rfl, hy, hz⟩
    · left
      rw [typesE, if_pos (by decide), reckonE, if_pos rfl]
      exact ⟨rfl, .inr ⟨n, hI.1, rfl⟩⟩
    · left
      rw [typesE, if_pos (by decide), reckonE, if_neg (by decide), if_pos rfl]
      exact ⟨rfl, lookF_num hB v f⟩
    · obtain ⟨t1, t2⟩ := types_one (by decide) ht
      have hs : SizeOf.sizeOf y < SizeOf.sizeOf [y] := List.sizeOf_lt_of_mem (by simp)
      rw [InK] at hI
      have hyv := ih y (by omega) hy hI.2.1
      rw [t2, reckonE, if_neg (by decide), if_neg (by decide), reckonL, reckonL]
      cases e : eqS op [33]
      · obtain ⟨w1, w2⟩ := want2n e
        rw [w1] at t1
        rw [w2]
        rcases hyv (by omega) with ⟨_, hv⟩ | ⟨h, _⟩
        · left
          refine ⟨rfl, ?_⟩
          rcases hv with hv | ⟨a, _, hv⟩ <;> rw [hv]
          · rw [comb_bad]; exact .inl rfl
          · rw [comb_neg]; exact okF_num _
        · omega
      · obtain ⟨w1, w2⟩ := want2y e
        rw [w1] at t1
        rw [w2]
        rcases hyv (by omega) with ⟨h, _⟩ | ⟨_, hv⟩
        · omega
        · right
          refine ⟨rfl, ?_⟩
          rcases hv with hv | ⟨b, hv⟩ <;> rw [hv]
          · rw [comb_bad]; exact .inl rfl
          · rw [comb_bang e]; exact .inr ⟨_, rfl⟩
    · obtain ⟨t1, t2, t3⟩ := types_two (by decide) ht
      have hs : SizeOf.sizeOf y < SizeOf.sizeOf [y, z] := List.sizeOf_lt_of_mem (by simp)
      have hs2 : SizeOf.sizeOf z < SizeOf.sizeOf [y, z] := List.sizeOf_lt_of_mem (by simp)
      rw [InK, InK] at hI
      have hyv := ih y (by omega) hy hI.2.1
      have hzv := ih z (by omega) hz hI.2.2.1
      rw [t3, reckonE, if_neg (by decide), if_neg (by decide), reckonL, reckonL, reckonL]
      by_cases h3 : lvl op < 3
      · obtain ⟨w1, w2⟩ := want3a h3
        rw [w1] at t1 t2
        rw [w2]
        right
        refine ⟨rfl, ?_⟩
        rcases hyv (by omega) with ⟨h, _⟩ | ⟨_, hv⟩
        · omega
        · rcases hzv (by omega) with ⟨h, _⟩ | ⟨_, hw⟩
          · omega
          · rcases hv with hv | ⟨b, hv⟩ <;> rw [hv]
            · rw [comb_bad]; exact .inl rfl
            · cases e : (b == eqS op [124, 124])
              · rw [comb_next (lvl_bang hlv) e]; exact hw
              · rw [comb_short (lvl_bang hlv) e]; exact .inr ⟨_, rfl⟩
      · by_cases h5 : lvl op < 5
        · obtain ⟨w1, w2⟩ := want3b h3 h5
          rw [w1] at t1 t2
          rw [w2]
          rcases hyv (by omega) with ⟨_, hv⟩ | ⟨h, _⟩
          · rcases hzv (by omega) with ⟨_, hw⟩ | ⟨h, _⟩
            · right
              refine ⟨rfl, ?_⟩
              rcases hv with hv | ⟨a, ha, hv⟩ <;> rw [hv]
              · rw [comb_bad]; exact .inl rfl
              · rcases hw with hw | ⟨c, hc, hw⟩ <;> rw [hw]
                · rw [comb_arb]; exact .inl rfl
                · rw [comb_ar]; exact arith_tr h3 h5 a c
            · omega
          · omega
        · obtain ⟨w1, w2⟩ := want3c h3 h5
          rw [w1] at t1 t2
          rw [w2]
          rcases hyv (by omega) with ⟨_, hv⟩ | ⟨h, _⟩
          · rcases hzv (by omega) with ⟨_, hw⟩ | ⟨h, _⟩
            · left
              refine ⟨rfl, ?_⟩
              rcases hv with hv | ⟨a, ha, hv⟩ <;> rw [hv]
              · rw [comb_bad]; exact .inl rfl
              · rcases hw with hw | ⟨c, hc, hw⟩ <;> rw [hw]
                · rw [comb_arb]; exact .inl rfl
                · rw [comb_ar]; exact arith_num h5 ha hc
            · omega
          · omega
end Go.Proofs.YtimmomhgljofnaaDoor.Hand
