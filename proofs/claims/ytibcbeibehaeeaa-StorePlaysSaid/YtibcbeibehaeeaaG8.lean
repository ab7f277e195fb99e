/- Joined: J5, J6, J7, J8, J9. -/
import Derived.Test.YtibcbeibehaeeaaG7
import Derived.Test.YtibcbeibehaeeaaG3
/- Stores: the reference's rows of what is kept, and its store in memory. -/
set_option linter.unusedVariables false
set_option linter.unusedSimpArgs false
namespace Go.Proofs.Ytibcbeibehaeeaa.Hand
open Go.RowKit Go.Proofs.Ytibcbeibehaeeaa.PStorePlays Go.Proofs.YtibcbeibehaeeaaW.PrintWords Go.Proofs.YtibcbeibehaeeaaW.PrintLast Go.Proofs.YtibcbeibehaeeaaW.PrintMore
/-- What the reference keeps of one event: index, many, slot, turn. -/
def kt4 (x : Kt) : Int × Int × Int × Int := (x.key, x.many, (x.sl : Int), x.gn)
def kK : Kd (Int × Int × Int × Int) := Kd.pair (Kd.int .i64) (Kd.pair (Kd.int .i64) (Kd.pair (Kd.int .u32) (Kd.int .u32)))
/-- A row of what is kept. -/
def KRow (W : World) (base : Nat) (v : Value) (L : List Kt) : Prop := kK.R 89 W base (fun _ => True) v (L.map kt4)
section
variable {W W1 : World} {base : Nat} {v : Value} {L : List Kt}
theorem KRow.none_ (W : World) (base : Nat) : KRow W base (.slice none 0 0) [] := Kd.R_nil _ _ _ _ _
theorem KRow.below (h : KRow W base v L) (hb : Below W.heap.size W W1) : KRow W1 base v L := Kd.R_below h hb
theorem KRow.typed (h : KRow W base v L) : ∀ k, v.ownBlock = some k → ∃ cells, W.heap[k]? = some (.cells cells 89 (0, 0)) := Kd.R_typed h
theorem KRow.slice (h : KRow W base v L) : ∃ A c, v = .slice A L.length c := by
  obtain ⟨A, c, e⟩ := Kd.R_slice h
  exact ⟨A, c, by rw [e, List.length_map]⟩
theorem KRow.addr (h : KRow W base v L) (h0 : 0 < L.length) : ∃ gb cb, v = .slice (some ⟨gb, 0, none⟩) L.length cb := by
  obtain ⟨inner, ho⟩ := Kd.R_own h
  obtain ⟨gb, cb, e, _, _⟩ := ho.form (by rw [List.length_map]; exact h0)
  exact ⟨gb, cb, by rw [e, List.length_map]⟩
theorem KRow.at_ {gb n cb : Nat} (h : KRow W base (.slice (some ⟨gb, 0, none⟩) n cb) L) (i : Nat) (hi : i < n) (x : Kt) (hp : L[i]? = some x) : W.cell? ⟨gb, i * 4, none⟩ = some (.int .i64 x.key) ∧ W.cell? ⟨gb, i * 4 + 1, none⟩ = some (.int .i64 x.many) ∧ W.cell? ⟨gb, i * 4 + 2, none⟩ = some (.int .u32 (x.sl : Int)) ∧ W.cell? ⟨gb, i * 4 + 3, none⟩ = some (.int .u32 x.gn) ∧ gb < W.heap.size := by
  obtain ⟨c, hc, hM, hcc, hff⟩ := Kd.R_elem h (0, 0, 0, 0) (i : Int) (by omega) (by omega)
  rw [Int.toNat_natCast] at hM hcc
  have hg : (L.map kt4).getD i (0, 0, 0, 0) = kt4 x := by
    rw [List.getD_eq_getElem?_getD, List.getElem?_map, hp]
    rfl
  rw [hg] at hM
  obtain ⟨_, _, rfl, rfl, _, _, rfl, rfl, _, _, rfl, rfl, rfl⟩ := hM
  have e0 := hcc 0 _ rfl
  have e1 := hcc 1 _ rfl
  have e2 := hcc 2 _ rfl
  have e3 := hcc 3 _ rfl
  obtain ⟨cells, hcl⟩ := KRow.typed h gb rfl
  exact ⟨e0, e1, e2, e3, blk_lt hcl⟩
end
/-- The reference's store in memory. -/
structure RS (W : World) (gr ga base : Nat) (v : Value) (L : List Kt) : Prop where
  blk : W.heap[gr]? = some (.cells #[.pointer (some ⟨ga, 0, none⟩), v] 72 (0, 0))
  row : KRow W base v L
theorem RS.below {W W1 : World} {gr ga base : Nat} {v : Value} {L : List Kt} (h : RS W gr ga base v L) (hb : Below W.heap.size W W1) : RS W1 gr ga base v L := ⟨blk_below h.blk hb, h.row.below hb⟩
end Go.Proofs.Ytibcbeibehaeeaa.Hand

/- Stores: the reference finds. -/
set_option linter.unusedVariables false
set_option linter.unusedSimpArgs false
namespace Go.Proofs.Ytibcbeibehaeeaa.Hand
open Go.RowKit Go.Proofs.Ytibcbeibehaeeaa.PStorePlays Go.Proofs.YtibcbeibehaeeaaW.PrintWords Go.Proofs.YtibcbeibehaeeaaW.PrintLast Go.Proofs.YtibcbeibehaeeaaW.PrintMore
set_option maxHeartbeats 1000000 in
set_option maxRecDepth 100000 in
theorem f_find {W : World} {gr ga base : Nat} {v : Value} {L : List Kt} (h : RS W gr ga base v L) (k : Int) (hL : L.length ≤ 1000000) (p : Nat) (hp : p ≤ L.length) (hno : ∀ j x, j < p → L[j]? = some x → x.key ≠ k) (hyes : ∀ x, L[p]? = some x → x.key = k) (r : Int) (hrr : r = if p < L.length then (p : Int) else -1) : Calls Try.prog 35 #[.pointer (some ⟨gr, 0, none⟩), .int .i64 k] W fun e w' => e = .returned (.int .i64 r) ∧ w' = W := by
  have q0 := blk_cell h.blk 0
  have q1 := blk_cell h.blk 1
  have hlt := blk_lt h.blk
  simp only [List.getElem?_toArray, List.getElem?_cons_zero, List.getElem?_cons_succ] at q0 q1
  obtain ⟨A, c, rfl⟩ := h.row.slice
  have H := Aside0.mk h
  have HNO := Aside0.mk hno
  have HYES := Aside0.mk hyes
  have HRR := Aside0.mk hrr
  clear h hno hyes hrr
  go_enter Try.func35, Try.ntmps35
  go_wp2
  go_loopw [5] (fun v5 wr => ∃ i : Nat, v5 = .int .i64 i ∧ i ≤ p ∧ wr = W) (fun v _ => p + 1 - (intOf v).toNat)
  case atStart => exact ⟨0, rfl, by omega, rfl⟩
  case round =>
    obtain ⟨i, rfl, hip, rfl⟩ := hrel
    by_cases hlt2 : i < L.length
    · obtain ⟨x, hx⟩ : ∃ x, L[i]? = some x := ⟨L[i], List.getElem?_eq_getElem hlt2⟩
      obtain ⟨gb, cb, e⟩ := H.out.row.addr (by omega)
      injection e with e1 e2 e3
      subst e1
      subst e3
      obtain ⟨k0, _, _, _, kl⟩ := H.out.row.at_ i hlt2 x hx
      by_cases hpi : i < p
      · have z0 : (x.key == k) = false := by simpa using HNO.out i x hpi hx
        go_wp2
        all_goals go_roundw
        all_goals (try (case rel => exact ⟨i + 1, by go_num, by omega, trivial⟩))
        all_goals (try (case measure => simp [intOf]; omega))
      · have e0 : i = p := by omega
        subst e0
        have hr0 : r = (i : Int) := by rw [HRR.out, if_pos hlt2]
        clear HRR
        subst hr0
        have z0 : (x.key == k) = true := by simpa using HYES.out x hx
        go_wp2
        all_goals go_ret
        all_goals exact ⟨rfl, rfl⟩
    · have e0 : i = p := by omega
      subst e0
      have hr0 : r = -1 := by rw [HRR.out, if_neg hlt2]
      clear HRR
      subst hr0
      go_wp2
      all_goals go_ret
      all_goals exact ⟨rfl, rfl⟩
end Go.Proofs.Ytibcbeibehaeeaa.Hand

/- Stores: the reference counts. -/
set_option linter.unusedVariables false
set_option linter.unusedSimpArgs false
namespace Go.Proofs.Ytibcbeibehaeeaa.Hand
open Go.RowKit Go.Proofs.Ytibcbeibehaeeaa.PStorePlays Go.Proofs.YtibcbeibehaeeaaW.PrintWords Go.Proofs.YtibcbeibehaeeaaW.PrintLast Go.Proofs.YtibcbeibehaeeaaW.PrintMore
/-- Where an event is. -/
theorem pos_of (L : List Kt) (k : Int) : ∃ p, p ≤ L.length ∧ (∀ j x, j < p → L[j]? = some x → x.key ≠ k) ∧ (∀ x, L[p]? = some x → x.key = k) ∧ findK L k = L[p]? := by
  induction L with
  | nil => exact ⟨0, Nat.le_refl _, fun j x h => absurd h (by omega), fun x h => by simp at h, rfl⟩
  | cons y r ih =>
    by_cases e : y.key = k
    · refine ⟨0, Nat.zero_le _, fun j x h => absurd h (by omega), fun x h => ?_, ?_⟩
      · simp at h
        subst h
        exact e
      · simp [findK, List.find?_cons, e]
    · obtain ⟨p, h1, h2, h3, h4⟩ := ih
      refine ⟨p + 1, by simpa using h1, fun j x hj hx => ?_, fun x hx => h3 x (by simpa using hx), ?_⟩
      · rcases j with _ | j
        · simp at hx
          subst hx
          exact e
        · exact h2 j x (by omega) (by simpa using hx)
      · have e1 : (y.key == k) = false := by simpa using e
        unfold findK at h4 ⊢
        rw [List.find?_cons, e1]
        simpa using h4
set_option maxHeartbeats 1000000 in
set_option maxRecDepth 100000 in
theorem f_count {W : World} {gr ga base : Nat} {v : Value} {L : List Kt} (h : RS W gr ga base v L) (k : Int) (hL : L.length ≤ 1000000) : Calls Try.prog 22 #[.pointer (some ⟨gr, 0, none⟩), .int .i64 k] W fun e w' => e = .returned (.int .i64 (cntK L k)) ∧ w' = W := by
  obtain ⟨p, hp, hno, hyes, hf⟩ := pos_of L k
  have q0 := blk_cell h.blk 0
  have q1 := blk_cell h.blk 1
  have hlt := blk_lt h.blk
  simp only [List.getElem?_toArray, List.getElem?_cons_zero, List.getElem?_cons_succ] at q0 q1
  obtain ⟨A, c, rfl⟩ := h.row.slice
  have H := Aside0.mk h
  have HNO := Aside0.mk hno
  have HYES := Aside0.mk hyes
  have HF := Aside0.mk hf
  obtain ⟨r, hrr⟩ : ∃ r : Int, r = if p < L.length then (p : Int) else -1 := ⟨_, rfl⟩
  have HRR := Aside0.mk hrr
  clear h hno hyes hf hrr
  by_cases hlt2 : p < L.length
  · obtain ⟨x, hx⟩ : ∃ x, L[p]? = some x := ⟨L[p], List.getElem?_eq_getElem hlt2⟩
    have hr0 : r = (p : Int) := by rw [HRR.out, if_pos hlt2]
    subst hr0
    obtain ⟨gb, cb, e⟩ := H.out.row.addr (by omega)
    injection e with e1 e2 e3
    subst e1
    subst e3
    obtain ⟨k0, k1, k2, k3, kl⟩ := H.out.row.at_ p hlt2 x hx
    have hfx : findK L k = some x := by rw [HF.out, hx]
    rw [show cntK L k = x.many by simp [cntK, hfx]]
    clear hfx
    go_enter Try.func22, Try.ntmps22
    go_wp2_with (first | (go_at_call 35; (with_reducible refine (f_find H.out k hL p hp HNO.out HYES.out _ HRR.out).mono ?_); rintro e w1 ⟨rfl, rfl⟩))
    all_goals go_ret
    all_goals exact ⟨rfl, rfl⟩
  · have hr0 : r = -1 := by rw [HRR.out, if_neg hlt2]
    subst hr0
    have hfx : findK L k = none := by rw [HF.out]; exact List.getElem?_eq_none (by omega)
    rw [show cntK L k = 0 by simp [cntK, hfx]]
    clear hfx
    go_enter Try.func22, Try.ntmps22
    go_wp2_with (first | (go_at_call 35; (with_reducible refine (f_find H.out k hL p hp HNO.out HYES.out _ HRR.out).mono ?_); rintro e w1 ⟨rfl, rfl⟩))
    all_goals go_ret
    all_goals exact ⟨rfl, rfl⟩
set_option maxHeartbeats 1000000 in
set_option maxRecDepth 100000 in
theorem f_len {W : World} {gr ga base : Nat} {v : Value} {L : List Kt} (h : RS W gr ga base v L) : Calls Try.prog 24 #[.pointer (some ⟨gr, 0, none⟩)] W fun e w' => e = .returned (.int .i64 L.length) ∧ w' = W := by
  have q0 := blk_cell h.blk 0
  have q1 := blk_cell h.blk 1
  have hlt := blk_lt h.blk
  simp only [List.getElem?_toArray, List.getElem?_cons_zero, List.getElem?_cons_succ] at q0 q1
  obtain ⟨A, c, rfl⟩ := h.row.slice
  clear h
  go_enter Try.func24, Try.ntmps24
  go_wp2
  go_ret
  exact ⟨rfl, rfl⟩
end Go.Proofs.Ytibcbeibehaeeaa.Hand

/- Stores: the reference's row, an element counted anew. -/
set_option linter.unusedVariables false
set_option linter.unusedSimpArgs false
namespace Go.Proofs.Ytibcbeibehaeeaa.Hand
open Go.RowKit Go.Proofs.Ytibcbeibehaeeaa.PStorePlays Go.Proofs.YtibcbeibehaeeaaW.PrintWords Go.Proofs.YtibcbeibehaeeaaW.PrintLast Go.Proofs.YtibcbeibehaeeaaW.PrintMore
theorem KRow.many_ {W : World} {base gb cb : Nat} {L : List Kt} (h : KRow W base (.slice (some ⟨gb, 0, none⟩) L.length cb) L) (i : Nat) (x : Kt) (hx : L[i]? = some x) (m : Int) (hm : I64k m) :
    KRow (W.setCell ⟨gb, i * 4 + 1, none⟩ (.int .i64 m)) base (.slice (some ⟨gb, 0, none⟩) L.length cb) (L.set i { x with many := m }) ∧ base ≤ gb ∧ ∃ cells, W.heap[gb]? = some (.cells cells 89 (0, 0)) := by
  obtain ⟨hi, hbe⟩ := List.getElem?_eq_some_iff.1 hx
  obtain ⟨inner, ho⟩ := Kd.R_own h
  obtain ⟨cells, hcl⟩ := own_typed ho gb rfl
  have hgb : base ≤ gb := own_base ho gb rfl
  obtain ⟨c, hc, hM, hcc, hff⟩ := Kd.R_elem h (0, 0, 0, 0) (i : Int) (by omega) (by omega)
  rw [Int.toNat_natCast] at hM hcc
  have hg : (L.map kt4).getD i (0, 0, 0, 0) = kt4 x := by
    rw [List.getD_eq_getElem?_getD, List.getElem?_map, hx]
    rfl
  rw [hg] at hM
  obtain ⟨_, _, rfl, rfl, _, _, rfl, rfl, _, _, rfl, rfl, rfl⟩ := hM
  have hs := Kd.R_seg (okp := fun _ => False) h (i : Int) (by omega) (by omega) (c := [.int .i64 x.key, .int .i64 x.many, .int .u32 (x.sl : Int), .int .u32 x.gn]) (seg := [.int .i64 m]) (j := 1) (x' := kt4 { x with many := m }) rfl (by rw [Int.toNat_natCast]; exact hcc) (by show 1 + 1 ≤ 4; omega)
    (by exact ⟨[.int .i64 x.key], [.int .i64 m, .int .u32 (x.sl : Int), .int .u32 x.gn], rfl, rfl, [.int .i64 m], [.int .u32 (x.sl : Int), .int .u32 x.gn], rfl, rfl, [.int .u32 (x.sl : Int)], [.int .u32 x.gn], rfl, rfl, rfl⟩) (fun _ hk => hk.elim)
  rw [Int.toNat_natCast] at hs
  refine ⟨?_, hgb, cells, hcl⟩
  unfold KRow
  rw [List.map_set]
  exact hs.1
end Go.Proofs.Ytibcbeibehaeeaa.Hand

/- Stores: the reference holds. -/
set_option linter.unusedVariables false
set_option linter.unusedSimpArgs false
namespace Go.Proofs.Ytibcbeibehaeeaa.Hand
open Go.RowKit Go.Proofs.Ytibcbeibehaeeaa.PStorePlays Go.Proofs.YtibcbeibehaeeaaW.PrintWords Go.Proofs.YtibcbeibehaeeaaW.PrintLast Go.Proofs.YtibcbeibehaeeaaW.PrintMore
theorem bump_set {L : List Kt} {k d : Int} {p : Nat} {x : Kt} (hx : L[p]? = some x) (hno : ∀ j y, j < p → L[j]? = some y → y.key ≠ k) (hk : x.key = k) (hn : (L.map (·.key)).Nodup) : bump L k d = L.set p { x with many := x.many + d } := by
  induction L generalizing p with
  | nil => simp at hx
  | cons y r ih =>
    rw [List.map_cons, List.nodup_cons] at hn
    rcases p with _ | p
    · simp at hx
      subst hx
      unfold bump
      rw [List.map_cons, if_pos hk, List.set_cons_zero]
      congr 1
      refine (List.map_congr_left fun z hz => ?_).trans (List.map_id _)
      have : z.key ≠ k := fun e => hn.1 (by rw [hk, ← e]; exact List.mem_map_of_mem hz)
      rw [if_neg this]
      rfl
    · have hy : y.key ≠ k := hno 0 y (by omega) (by simp)
      have := ih (p := p) (by simpa using hx) (fun j z hj hz => hno (j + 1) z (by omega) (by simpa using hz)) hn.2
      unfold bump at this ⊢
      rw [List.map_cons, if_neg hy, List.set_cons_succ, this]
set_option maxHeartbeats 1000000 in
set_option maxRecDepth 100000 in
theorem f_hold {W : World} {gr ga base : Nat} {v : Value} {L : List Kt} (h : RS W gr ga base v L) (k : Int) (hL : L.length ≤ 1000000) (hn : (L.map (·.key)).Nodup) (hmany : ∀ x ∈ L, 0 ≤ x.many ∧ x.many ≤ 1000000) : Calls Try.prog 15 #[.pointer (some ⟨gr, 0, none⟩), .int .i64 k] W fun e w' => e = .returned (.bool (findK L k).isSome) ∧ RS w' gr ga base v (bump L k 1) := by
  obtain ⟨p, hp, hno, hyes, hf⟩ := pos_of L k
  have q0 := blk_cell h.blk 0
  have q1 := blk_cell h.blk 1
  have hlt := blk_lt h.blk
  simp only [List.getElem?_toArray, List.getElem?_cons_zero, List.getElem?_cons_succ] at q0 q1
  obtain ⟨A, c, rfl⟩ := h.row.slice
  have H := Aside0.mk h
  have HNO := Aside0.mk hno
  have HYES := Aside0.mk hyes
  have HF := Aside0.mk hf
  obtain ⟨r, hrr⟩ : ∃ r : Int, r = if p < L.length then (p : Int) else -1 := ⟨_, rfl⟩
  have HRR := Aside0.mk hrr
  clear h hno hyes hf hrr
  by_cases hlt2 : p < L.length
  · obtain ⟨x, hx⟩ : ∃ x, L[p]? = some x := ⟨L[p], List.getElem?_eq_getElem hlt2⟩
    have hr0 : r = (p : Int) := by rw [HRR.out, if_pos hlt2]
    subst hr0
    obtain ⟨gb, cb, e⟩ := H.out.row.addr (by omega)
    injection e with e1 e2 e3
    subst e1
    subst e3
    obtain ⟨k0, k1, k2, k3, kl⟩ := H.out.row.at_ p hlt2 x hx
    have hfx : findK L k = some x := by rw [HF.out, hx]
    have hmx := hmany x (List.mem_of_getElem? hx)
    have hP := H.out.row.many_ p x hx (x.many + 1) (by unfold I64k; omega)
    rw [← bump_set hx HNO.out (HYES.out x hx) hn] at hP
    obtain ⟨hP1, hP2, cells, hcl⟩ := hP
    have HP1 := Aside0.mk hP1
    have HP2 := Aside0.mk hP2
    have HCL := Aside0.mk hcl
    have hfz := blk_frozen hcl (p * 4 + 1)
    clear hP1 hP2 hcl
    go_enter Try.func15, Try.ntmps15
    go_wp2_with (first | (go_at_call 35; (with_reducible refine (f_find H.out k hL p hp HNO.out HYES.out _ HRR.out).mono ?_); rintro e w1 ⟨rfl, rfl⟩))
    all_goals go_ret
    have hne : gb ≠ gr := by
      rintro rfl
      have h1 := H.out.blk
      rw [HCL.out] at h1
      injection h1 with h1
      injection h1 with _ e
      exact absurd e (by decide)
    exact ⟨by simp [hfx], ⟨blk_far H.out.blk (fun e => hne e.symm) _, HP1.out⟩⟩
  · have hr0 : r = -1 := by rw [HRR.out, if_neg hlt2]
    subst hr0
    have hfx : findK L k = none := by rw [HF.out]; exact List.getElem?_eq_none (by omega)
    rw [hfx]
    go_enter Try.func15, Try.ntmps15
    go_wp2_with (first | (go_at_call 35; (with_reducible refine (f_find H.out k hL p hp HNO.out HYES.out _ HRR.out).mono ?_); rintro e w1 ⟨rfl, rfl⟩))
    all_goals go_ret
    have hb : bump L k 1 = L := by
      refine (List.map_congr_left fun z hz => ?_).trans (List.map_id _)
      have := List.find?_eq_none.1 hfx z hz
      rw [if_neg (by simpa using this)]
      rfl
    rw [hb]
    exact ⟨rfl, H.out⟩
end Go.Proofs.Ytibcbeibehaeeaa.Hand
