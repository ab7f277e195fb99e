/- Joined: J0, J1, J2, J3, J4. -/
import Derived.Test.YtibcbeibehaeeaaG3
import Derived.Maps.OwnOps
import Derived.Maps.OwnSet
import Derived.Maps.Views
import Derived.Test.YtibcbeibehaeeaaG6
/- A map from ints to blocks, as a list tells it. -/
set_option linter.unusedVariables false
set_option linter.unusedSimpArgs false
namespace Go.Proofs.Ytibcbeibehaeeaa.Hand
open Go.RowKit Go.Proofs.YtibcbeibehaeeaaW.PrintWords

theorem intKeys : Maps.Keyed Try.prog 3 := Maps.int_keyed Try.underlying3
/-- A pointer to a block, read. -/
def ptrE (v : Value) : Option (DataW Unit × List MemPlace) :=
  match v with
  | .pointer none => some (.nil, [])
  | .pointer (some p) => if p.off = 0 ∧ p.spot = none then some (.lit (.int .u64 (p.block : Int)), []) else none
  | _ => none
theorem ptrE_mk (b : Nat) : ptrE (.pointer (some ⟨b, 0, none⟩)) = some (.lit (.int .u64 (b : Int)), []) := by simp [ptrE]
theorem ptrE_inv {v : Value} {b : Nat} {ps : List MemPlace} (h : ptrE v = some (.lit (.int .u64 (b : Int)), ps)) : v = .pointer (some ⟨b, 0, none⟩) := by
  unfold ptrE at h
  split at h
  · injection h with h; injection h with h _; cases h
  · rename_i p
    split at h
    · rename_i hp
      injection h with h
      injection h with h _
      injection h with h
      injection h with _ h
      obtain ⟨b', o, s⟩ := p
      obtain ⟨rfl, rfl⟩ := hp
      have : b' = b := Int.ofNat.inj h
      rw [this]
    · cases h
  · cases h
theorem ptrE_nil {v : Value} {ps : List MemPlace} (h : ptrE v = some (.nil, ps)) : v = .pointer none := by
  unfold ptrE at h
  split at h
  · rfl
  · split at h
    · injection h with h; injection h with h _; cases h
    · cases h
  · cases h
/-- The block under a key. -/
def look (l : List (Int × Nat)) (k : Int) : Option Nat := (l.find? (fun p => p.1 == k)).map (·.2)
def encO : Option Nat → DataW Unit
  | none => .nil
  | some b => .lit (.int .u64 (b : Int))
def ptrO (o : Option Nat) : Value := .pointer (o.map fun b => ⟨b, 0, none⟩)
def I64k (k : Int) : Prop := -9223372036854775808 ≤ k ∧ k ≤ 9223372036854775807
def MapL (W : World) (mb N : Nat) (l : List (Int × Nat)) : Prop :=
  ∃ n D, W.ownsMap (H := Unit) Try.prog 3 ptrE mb n D ∧ n ≤ N ∧ Maps.size D = l.length ∧ ∀ k, I64k k → Maps.has D (.int .i64 k) = (look l k).isSome ∧ D.atKey (.int .i64 k) .nil = encO (look l k)
theorem wf_i64 {k : Int} (h : I64k k) : (Lit.int .i64 k).wf = true := by
  unfold I64k at h
  simp [Lit.wf, IntKind.min, IntKind.max, IntKind.signed, IntKind.bits]
  omega
section
variable {W W1 : World} {mb N : Nat} {l : List (Int × Nat)}
theorem MapL.kept (h : MapL W mb N l) (hk : W1.heap[mb]? = W.heap[mb]?) : MapL W1 mb N l := by
  obtain ⟨n, D, ⟨es, clock, hb, h2⟩, h3⟩ := h
  exact ⟨n, D, ⟨es, clock, hk.trans hb, h2⟩, h3⟩
theorem MapL.lt (h : MapL W mb N l) : mb < W.heap.size := by
  obtain ⟨n, D, h, _⟩ := h
  exact h.lt
theorem MapL.map_ (h : MapL W mb N l) : ∃ es clock, W.heap[mb]? = some (.map es clock) := by
  obtain ⟨n, D, ⟨es, clock, hb, _⟩, _⟩ := h
  exact ⟨es, clock, hb⟩
theorem MapL.below (h : MapL W mb N l) (hb : Below W.heap.size W W1) : MapL W1 mb N l := h.kept (hb.block mb h.lt)
theorem MapL.fr {g : Nat} (h : MapL W mb N l) (hF : Fr g W W1) : MapL W1 mb N l := by
  obtain ⟨es, clock, hm⟩ := h.map_
  exact h.kept (hF.block mb h.lt (.inr (fun cs q fr hc => by rw [hm] at hc; cases hc)))
theorem MapL.fR {g : Nat} (h : MapL W mb N l) (hF : FR g W W1) : MapL W1 mb N l := by
  obtain ⟨es, clock, hm⟩ := h.map_
  exact h.kept (hF.block mb h.lt (.inr (fun cs q fr hc => by rw [hm] at hc; cases hc)))
theorem MapL.set {b j : Nat} {cs : Array Value} {q : Nat} (h : MapL W mb N l) (hb : W.heap[b]? = some (.cells cs q (0, 0))) (v : Value) : MapL (W.setCell ⟨b, j, none⟩ v) mb N l := by
  obtain ⟨es, clock, hm⟩ := h.map_
  refine h.kept (Below.heap_setCell W ⟨b, j, none⟩ v mb ?_)
  show mb ≠ b
  rintro rfl
  rw [hm] at hb
  cases hb
theorem MapL.new (W : World) : MapL (W.alloc (.map #[] 0)) W.heap.size 0 [] :=
  ⟨0, .map [], World.ownsMap_made W _ _ _, Nat.le_refl _, rfl, fun k _ => ⟨rfl, rfl⟩⟩
theorem MapL.mono {N' : Nat} (h : MapL W mb N l) (hN : N ≤ N') : MapL W mb N' l := by
  obtain ⟨n, D, h1, h2, h3⟩ := h
  exact ⟨n, D, h1, Nat.le_trans h2 hN, h3⟩
theorem MapL.look_ (h : MapL W mb N l) (k : Int) (hk : I64k k) (mt : Nat) (ht : Try.prog.underlying mt = some (.map 3 75)) (hz : (zeroValue 75).run Try.prog W = .ok (.pointer none) W) :
    (Instr.lookup mt (.map (some mb)) (.int .i64 k) true).run Try.prog W = .ok (.tuple #[ptrO (look l k), .bool (look l k).isSome]) W := by
  obtain ⟨n, D, h1, _, _, h3⟩ := h
  obtain ⟨e1, e2⟩ := h3 k hk
  obtain ⟨v, ps, hr, hv⟩ := h1.look_ok intKeys ht hz (zd := .nil) (zp := []) rfl (Maps.keyOf_int_mk Try.underlying3 (wf_i64 hk))
  rw [hr, e1]
  rw [e2] at hv
  have : v = ptrO (look l k) := by
    cases hl : look l k with
    | none => rw [hl] at hv; exact ptrE_nil hv
    | some b => rw [hl] at hv; exact ptrE_inv hv
  rw [this]
theorem MapL.len_ (h : MapL W mb N l) (mt ty : Nat) (ht : Try.prog.underlying mt = some (.map 3 75)) : (Builtin.len_ #[mt] ty #[.map (some mb)]).run Try.prog W = .ok (.int .i64 (l.length : Int)) W := by
  obtain ⟨n, D, h1, _, h2, _⟩ := h
  have := h1.len ht ty
  rw [h2] at this
  exact this
theorem look_snoc (l : List (Int × Nat)) (k : Int) (b : Nat) (k' : Int) (hn : look l k = none) : look (l ++ [(k, b)]) k' = if k' = k then some b else look l k' := by
  unfold look at *
  rw [List.find?_append]
  by_cases h : k' = k
  · subst h
    rw [if_pos rfl]
    cases hf : l.find? (fun p => p.1 == k') with
    | some x => rw [hf] at hn; simp at hn
    | none => simp
  · rw [if_neg h]
    cases hf : l.find? (fun p => p.1 == k') with
    | some x => simp
    | none =>
      have : (k == k') = false := by simp; exact fun e => h e.symm
      simp [this]
theorem look_del (l : List (Int × Nat)) (k k' : Int) : look (l.filter (fun p => p.1 != k)) k' = if k' = k then none else look l k' := by
  unfold look
  induction l with
  | nil => simp
  | cons p r ih =>
    by_cases h1 : p.1 = k
    · have e1 : (p.1 != k) = false := by simp [h1]
      rw [List.filter_cons, e1, if_neg (by simp), ih]
      by_cases h2 : k' = k
      · rw [if_pos h2, if_pos h2]
      · rw [if_neg h2, if_neg h2, List.find?_cons]
        have : (p.1 == k') = false := by simp; exact fun e => h2 (e.symm.trans h1)
        rw [this]
    · have e1 : (p.1 != k) = true := by simp [h1]
      rw [List.filter_cons, e1, if_pos rfl, List.find?_cons, List.find?_cons]
      by_cases h3 : p.1 = k'
      · have e3 : (p.1 == k') = true := by simp [h3]
        rw [e3, if_neg (fun e => h1 (h3.trans e))]
      · have e3 : (p.1 == k') = false := by simp [h3]
        rw [e3]
        exact ih
theorem lit_ne {k k' : Int} (h : k' ≠ k) : (Lit.int .i64 k') ≠ (Lit.int .i64 k) := fun e => h (by injection e)
theorem MapL.store_ (h : MapL W mb N l) (k : Int) (hk : I64k k) (b : Nat) (hn : look l k = none) (hN : N < 1000000) (mt : Nat) (ht : Try.prog.underlying mt = some (.map 3 75)) :
    ∃ w', (Instr.mapUpdate mt (.map (some mb)) (.int .i64 k) (.pointer (some ⟨b, 0, none⟩))).run Try.prog W = .ok () w' ∧ MapL w' mb (N + 1) (l ++ [(k, b)]) ∧ W.mapTurned w' mb := by
  obtain ⟨n, D, h1, h2, h4, h3⟩ := h
  obtain ⟨w', hr, ho, ht'⟩ := h1.store intKeys ht (by unfold maxLen; omega) (Maps.keyOf_int_mk Try.underlying3 (wf_i64 hk)) (ptrE_mk b)
  refine ⟨w', hr, ⟨n + 1, _, ho, by omega, ?_, fun k' hk' => ?_⟩, ht'⟩
  · rw [Maps.size_put (h1.tidy intKeys), (h3 k hk).1, hn, h4]
    simp
  · rw [look_snoc l k b k' hn]
    by_cases e : k' = k
    · subst e
      rw [if_pos rfl]
      exact ⟨Maps.has_put_same h1.isMap (by trivial) _, Maps.atKey_put_same h1.isMap (by trivial) _ _⟩
    · rw [if_neg e, Maps.has_put_other (lit_ne e), Maps.atKey_put_other (lit_ne e)]
      exact h3 k' hk'
theorem MapL.drop_ (h : MapL W mb N l) (k : Int) (hk : I64k k) (hd : (l.map (·.1)).Nodup) (mt ty : Nat) (ht : Try.prog.underlying mt = some (.map 3 75)) :
    ∃ w', (Builtin.delete_ #[mt, 3] ty #[.map (some mb), .int .i64 k]).run Try.prog W = .ok (.tuple #[]) w' ∧ MapL w' mb N (l.filter (fun p => p.1 != k)) ∧ W.mapTurned w' mb := by
  obtain ⟨n, D, h1, h2, h4, h3⟩ := h
  obtain ⟨w', hr, ho, ht'⟩ := h1.drop intKeys ht (Maps.keyOf_int_mk Try.underlying3 (wf_i64 hk)) ty
  refine ⟨w', hr, ⟨n, _, ho, h2, ?_, fun k' hk' => ?_⟩, ht'⟩
  · have e1 := Maps.size_del (h1.tidy intKeys) (k := .int .i64 k)
    rw [(h3 k hk).1, h4] at e1
    have e2 : (l.filter (fun p => p.1 != k)).length + (if (look l k).isSome then 1 else 0) = l.length := by
      clear e1 h3 h4
      unfold look
      induction l with
      | nil => simp
      | cons p r ih =>
        rw [List.map_cons, List.nodup_cons] at hd
        have ih := ih hd.2
        by_cases h1 : p.1 = k
        · have e1 : (p.1 != k) = false := by simp [h1]
          have e2 : (p.1 == k) = true := by simp [h1]
          rw [List.filter_cons, e1, if_neg (by simp), List.find?_cons, e2]
          have : r.find? (fun p => p.1 == k) = none := by
            rw [List.find?_eq_none]
            intro x hx
            simp
            intro e
            exact hd.1 (List.mem_map.2 ⟨x, hx, by rw [e, h1]⟩)
          rw [this] at ih
          simp at ih ⊢
          omega
        · have e1 : (p.1 != k) = true := by simp [h1]
          have e2 : (p.1 == k) = false := by simp [h1]
          rw [List.filter_cons, e1, if_pos rfl, List.find?_cons, e2]
          simp only [List.length_cons]
          omega
    omega
  · rw [look_del]
    by_cases e : k' = k
    · subst e
      rw [if_pos rfl, Maps.has_del_same, Maps.atKey_del_same]
      exact ⟨rfl, rfl⟩
    · rw [if_neg e, Maps.has_del_other (lit_ne e), Maps.atKey_del_other (lit_ne e)]
      exact h3 k' hk'
end
end Go.Proofs.Ytibcbeibehaeeaa.Hand

/- Stores in memory: what a store is; Count, Len, Hold. -/
set_option linter.unusedVariables false
set_option linter.unusedSimpArgs false
namespace Go.Proofs.Ytibcbeibehaeeaa.Hand
open Go.RowKit Go.Proofs.YtibcbeibehaeeaaW.PrintWords Go.Proofs.YtibcbeibehaeeaaW.PrintLast Go.Proofs.YtibcbeibehaeeaaW.PrintMore
/-- What is kept: its index, its block, the handle's slot and generation, how often it is counted. -/
structure Kt where
  key : Int
  blk : Nat
  sl : Nat
  gn : Int
  many : Int
def mapOf (L : List Kt) : List (Int × Nat) := L.map fun x => (x.key, x.blk)
/-- A store: its block gs, its arena's ga, its map's mb, what is kept. -/
structure SX (W : World) (gs ga mb N : Nat) (L : List Kt) : Prop where
  blk : W.heap[gs]? = some (.cells #[.pointer (some ⟨ga, 0, none⟩), .map (some mb)] 69 (0, 0))
  map : MapL W mb N (mapOf L)
  kept : ∀ x ∈ L, W.heap[x.blk]? = some (.cells #[.int .u32 (x.sl : Int), .int .u32 x.gn, .int .i64 x.many] 83 (0, 0))
  keys : (L.map (·.key)).Nodup
  blks : (L.map (·.blk)).Nodup
  low : ga ≤ gs ∧ ga ≤ mb ∧ ∀ x ∈ L, ga ≤ x.blk
def findK (L : List Kt) (k : Int) : Option Kt := L.find? (fun x => x.key == k)
theorem look_mapOf (L : List Kt) (k : Int) : look (mapOf L) k = (findK L k).map (·.blk) := by
  unfold look mapOf findK
  rw [List.find?_map]
  show Option.map (fun p : Int × Nat => p.2) (Option.map (fun x : Kt => (x.key, x.blk)) (L.find? (fun x => x.key == k))) = _
  rw [Option.map_map]
  rfl
theorem findK_some {L : List Kt} {k : Int} {x : Kt} (h : findK L k = some x) : x ∈ L ∧ x.key = k := by
  unfold findK at h
  exact ⟨List.mem_of_find?_eq_some h, by simpa using List.find?_some h⟩
def cntK (L : List Kt) (k : Int) : Int := match findK L k with
  | some x => x.many
  | none => 0
/-- The types of what a store's methods write. -/
def ST (q : Nat) : Prop := AT q ∨ q = 83
structure FS (g : Nat) (W W' : World) : Prop where
  os : W'.os = W.os
  tape : W'.tape = W.tape
  output : W'.output = W.output
  size : W.heap.size ≤ W'.heap.size
  block : ∀ k, k < W.heap.size → (k < g ∨ ∃ cs q, W.heap[k]? = some (.cells cs q (0, 0)) ∧ ¬ ST q) → W'.heap[k]? = W.heap[k]?
theorem FS.refl (g : Nat) (W : World) : FS g W W := ⟨rfl, rfl, rfl, Nat.le_refl _, fun _ _ _ => rfl⟩
theorem FS.of_below {g : Nat} {W W1 : World} (hb : Below W.heap.size W W1) : FS g W W1 := ⟨hb.os, hb.tape, hb.output, hb.size, fun k hk _ => hb.block k hk⟩
theorem FS.of_fr {g : Nat} {W W1 : World} (h : Fr g W W1) : FS g W W1 := ⟨h.os, h.tape, h.output, h.size, fun k hk hp => h.block k hk (hp.imp id (fun ⟨cs, q, hc, hq⟩ cs' q' fr hc' => by
  rw [hc] at hc'; injection hc' with hc'; injection hc' with _ e; subst e; exact fun h => hq (.inl h)))⟩
theorem FS.trans {g : Nat} {W W1 W2 : World} (h : FS g W W1) (h' : FS g W1 W2) : FS g W W2 :=
  ⟨h'.os.trans h.os, h'.tape.trans h.tape, h'.output.trans h.output, Nat.le_trans h.size h'.size, fun k hk hp =>
    (h'.block k (Nat.lt_of_lt_of_le hk h.size) (hp.imp id (fun ⟨cs, q, hc, hq⟩ => ⟨cs, q, (h.block k hk (.inr ⟨cs, q, hc, hq⟩)).trans hc, hq⟩))).trans (h.block k hk hp)⟩
theorem FS.blk {g k q : Nat} {W W1 : World} {cs : Array Value} (h : FS g W W1) (hb : W.heap[k]? = some (.cells cs q (0, 0))) (hq : ¬ ST q) : W1.heap[k]? = some (.cells cs q (0, 0)) :=
  (h.block k (blk_lt hb) (.inr ⟨cs, q, hb, hq⟩)).trans hb
theorem FS.below {B g : Nat} {w W W1 : World} (h : FS g W W1) (hb : Below B w W) (hB : B ≤ g) (hw : B ≤ W.heap.size) : Below B w W1 :=
  hb.trans ⟨h.os, h.tape, h.output, h.size, fun k hk => h.block k (Nat.lt_of_lt_of_le hk hw) (.inl (Nat.lt_of_lt_of_le hk hB))⟩
theorem FS.set {g b : Nat} {cs : Array Value} {W : World} (hb : W.heap[b]? = some (.cells cs 83 (0, 0))) (hg : g ≤ b) (j : Nat) (v : Value) : FS g W (W.setCell ⟨b, j, none⟩ v) := by
  have h := (Below.refl b W).setCell (p := ⟨b, j, none⟩) (Nat.le_refl b) v
  refine ⟨h.os, h.tape, h.output, h.size, fun k hk hp => Below.heap_setCell W ⟨b, j, none⟩ v k ?_⟩
  show k ≠ b
  rintro rfl
  rcases hp with hp | ⟨cs', q, hc, hq⟩
  · omega
  · rw [hb] at hc
    injection hc with hc
    injection hc with _ e
    exact hq (.inr e.symm)
theorem FS.turned {g mb : Nat} {W W1 : World} (hm : W.mapTurned W1 mb) (hg : g ≤ mb) : FS g W W1 := by
  have h := hm.grown
  refine ⟨h.os, h.tape, h.output, h.size, fun k hk hp => h.block k hk ?_⟩
  intro e
  injection e with e
  subst e
  rcases hp with hp | ⟨cs, q, hc, _⟩
  · omega
  · obtain ⟨es, clock, _, _, hb, _⟩ := hm
    rw [hb] at hc
    cases hc
/-- One is counted by so many more. -/
def bump (L : List Kt) (k d : Int) : List Kt := L.map fun x => if x.key = k then { x with many := x.many + d } else x
theorem bump_keys (L : List Kt) (k d : Int) : (bump L k d).map (·.key) = L.map (·.key) := by
  unfold bump
  rw [List.map_map]
  apply List.map_congr_left
  intro x _
  simp only [Function.comp]
  split <;> rfl
theorem bump_blks (L : List Kt) (k d : Int) : (bump L k d).map (·.blk) = L.map (·.blk) := by
  unfold bump
  rw [List.map_map]
  apply List.map_congr_left
  intro x _
  simp only [Function.comp]
  split <;> rfl
theorem bump_mapOf (L : List Kt) (k d : Int) : mapOf (bump L k d) = mapOf L := by
  unfold bump mapOf
  rw [List.map_map]
  apply List.map_congr_left
  intro x _
  simp only [Function.comp]
  split <;> rfl
theorem nodup_inj {α β : Type} {f : α → β} : ∀ {l : List α}, (l.map f).Nodup → ∀ {x y : α}, x ∈ l → y ∈ l → f x = f y → x = y
  | a :: r, h, x, y, hx, hy, e => by
    rw [List.map_cons, List.nodup_cons] at h
    rcases List.mem_cons.1 hx with e1 | h1
    · rcases List.mem_cons.1 hy with e2 | h2
      · rw [e1, e2]
      · exact absurd (List.mem_map.2 ⟨y, h2, by rw [← e, e1]⟩) h.1
    · rcases List.mem_cons.1 hy with e2 | h2
      · exact absurd (List.mem_map.2 ⟨x, h1, by rw [e, e2]⟩) h.1
      · exact nodup_inj h.2 h1 h2 e
section
variable {W W1 : World} {gs ga mb N : Nat} {L : List Kt}
theorem SX.below (h : SX W gs ga mb N L) (hb : Below W.heap.size W W1) : SX W1 gs ga mb N L :=
  ⟨blk_below h.blk hb, h.map.below hb, fun x hx => blk_below (h.kept x hx) hb, h.keys, h.blks, h.low⟩
theorem SX.fr {g : Nat} (h : SX W gs ga mb N L) (hF : Fr g W W1) : SX W1 gs ga mb N L :=
  ⟨hF.blk h.blk (by unfold AT; decide), h.map.fr hF, fun x hx => hF.blk (h.kept x hx) (by unfold AT; decide), h.keys, h.blks, h.low⟩
theorem SX.fR {g : Nat} (h : SX W gs ga mb N L) (hF : FR g W W1) : SX W1 gs ga mb N L :=
  ⟨hF.blk h.blk (by unfold RT; decide), h.map.fR hF, fun x hx => hF.blk (h.kept x hx) (by unfold RT; decide), h.keys, h.blks, h.low⟩
/-- The count of what is kept under a key is stored. -/
theorem SX.bump_ (h : SX W gs ga mb N L) {x : Kt} (hx : x ∈ L) (d m : Int) (hm : x.many + d = m) : SX (W.setCell ⟨x.blk, 2, none⟩ (.int .i64 m)) gs ga mb N (bump L x.key d) ∧ FS ga W (W.setCell ⟨x.blk, 2, none⟩ (.int .i64 m)) := by
  subst hm
  have hb := h.kept x hx
  refine ⟨⟨blk_far (p := ⟨x.blk, 2, none⟩) h.blk (blk_ne h.blk hb (by decide)) _, by rw [bump_mapOf]; exact h.map.set hb _, ?_, by rw [bump_keys]; exact h.keys, by rw [bump_blks]; exact h.blks, h.low.1, h.low.2.1, ?_⟩, FS.set hb (h.low.2.2 x hx) 2 _⟩
  · intro y hy
    obtain ⟨z, hz, rfl⟩ := List.mem_map.1 hy
    by_cases e : z.key = x.key
    · obtain rfl := nodup_inj h.keys hz hx e
      rw [if_pos rfl]
      exact blk_put hb 2 _ rfl
    · rw [if_neg e]
      refine blk_far (p := ⟨x.blk, 2, none⟩) (h.kept z hz) (fun eb => e ?_) _
      rw [nodup_inj h.blks hz hx eb]
  · intro y hy
    obtain ⟨z, hz, rfl⟩ := List.mem_map.1 hy
    have := h.low.2.2 z hz
    split <;> exact this
theorem zkept (W : World) : (zeroValue 75).run Try.prog W = .ok (.pointer none) W := by kernel_rfl
theorem SX.look_ (h : SX W gs ga mb N L) (k : Int) (hk : I64k k) : (Instr.lookup 67 (.map (some mb)) (.int .i64 k) true).run Try.prog W = .ok (.tuple #[ptrO ((findK L k).map (·.blk)), .bool (findK L k).isSome]) W := by
  have := h.map.look_ k hk 67 Try.underlying67 (zkept W)
  rw [look_mapOf] at this
  simpa using this
end
set_option maxHeartbeats 1000000 in
set_option maxRecDepth 100000 in
theorem s_count {W : World} {gs ga mb N : Nat} {L : List Kt} (h : SX W gs ga mb N L) (k : Int) (hk : I64k k) : Calls Try.prog 21 #[.pointer (some ⟨gs, 0, none⟩), .int .i64 k] W fun e w' => e = .returned (.int .i64 (cntK L k)) ∧ w' = W := by
  have q0 := blk_cell h.blk 0
  have q1 := blk_cell h.blk 1
  have hlt := blk_lt h.blk
  simp only [List.getElem?_toArray, List.getElem?_cons_zero, List.getElem?_cons_succ] at q0 q1
  have hl := h.look_ k hk
  unfold cntK
  cases hf : findK L k with
  | none =>
    rw [hf] at hl
    have hl2 : (Instr.lookup 67 (.map (some mb)) (.int .i64 k) true).run Try.prog W = .ok (.tuple #[.pointer none, .bool false]) W := hl
    clear hl hf h
    go_enter Try.func21, Try.ntmps21
    go_wp2
    go_ret
    exact ⟨rfl, rfl⟩
  | some x =>
    rw [hf] at hl
    have hl2 : (Instr.lookup 67 (.map (some mb)) (.int .i64 k) true).run Try.prog W = .ok (.tuple #[.pointer (some ⟨x.blk, 0, none⟩), .bool true]) W := hl
    have hx := h.kept x (findK_some hf).1
    have p2 := blk_cell hx 2
    have pl := blk_lt hx
    simp only [List.getElem?_toArray, List.getElem?_cons_zero, List.getElem?_cons_succ] at p2
    clear hl hf h hx
    go_enter Try.func21, Try.ntmps21
    go_wp2
    go_ret
    exact ⟨rfl, rfl⟩
set_option maxHeartbeats 1000000 in
set_option maxRecDepth 100000 in
theorem s_hold {W : World} {gs ga mb N : Nat} {L : List Kt} (h : SX W gs ga mb N L) (k : Int) (hk : I64k k) (hmany : ∀ x ∈ L, 0 ≤ x.many ∧ x.many ≤ 1000000) : Calls Try.prog 14 #[.pointer (some ⟨gs, 0, none⟩), .int .i64 k] W fun e w' => e = .returned (.bool (findK L k).isSome) ∧ SX w' gs ga mb N (bump L k 1) ∧ FS ga W w' := by
  have q0 := blk_cell h.blk 0
  have q1 := blk_cell h.blk 1
  have hlt := blk_lt h.blk
  simp only [List.getElem?_toArray, List.getElem?_cons_zero, List.getElem?_cons_succ] at q0 q1
  have hl := h.look_ k hk
  have H := Aside0.mk h
  cases hf : findK L k with
  | none =>
    rw [hf] at hl
    have hl2 : (Instr.lookup 67 (.map (some mb)) (.int .i64 k) true).run Try.prog W = .ok (.tuple #[.pointer none, .bool false]) W := hl
    have hb : bump L k 1 = L := by
      unfold bump
      conv => rhs; rw [← List.map_id L]
      apply List.map_congr_left
      intro x hx
      have := List.find?_eq_none.1 hf x hx
      rw [if_neg (by simpa using this)]
      rfl
    have HB := Aside0.mk hb
    clear hl hf h hb
    go_enter Try.func14, Try.ntmps14
    go_wp2
    go_ret
    exact ⟨rfl, by rw [HB.out]; exact H.out, FS.refl _ _⟩
  | some x =>
    rw [hf] at hl
    have hl2 : (Instr.lookup 67 (.map (some mb)) (.int .i64 k) true).run Try.prog W = .ok (.tuple #[.pointer (some ⟨x.blk, 0, none⟩), .bool true]) W := hl
    obtain ⟨hxm, hxk⟩ := findK_some hf
    have hx := h.kept x hxm
    have hb := hmany x hxm
    have p2 := blk_cell hx 2
    have pf := blk_frozen hx 2
    have pl := blk_lt hx
    simp only [List.getElem?_toArray, List.getElem?_cons_zero, List.getElem?_cons_succ] at p2
    have HM := Aside0.mk hxm
    have HK := Aside0.mk hxk
    clear hl hf h hx hxm hxk
    go_enter Try.func14, Try.ntmps14
    go_wp2
    go_ret
    have hB := H.out.bump_ HM.out 1 (x.many + 1) rfl
    rw [HK.out] at hB
    exact ⟨rfl, hB.1, hB.2⟩
set_option maxHeartbeats 1000000 in
set_option maxRecDepth 100000 in
theorem s_len {W : World} {gs ga mb N : Nat} {L : List Kt} (h : SX W gs ga mb N L) : Calls Try.prog 23 #[.pointer (some ⟨gs, 0, none⟩)] W fun e w' => e = .returned (.int .i64 (L.length : Int)) ∧ w' = W := by
  have q0 := blk_cell h.blk 0
  have q1 := blk_cell h.blk 1
  have hlt := blk_lt h.blk
  simp only [List.getElem?_toArray, List.getElem?_cons_zero, List.getElem?_cons_succ] at q0 q1
  have hl := h.map.len_ 67 3 Try.underlying67
  unfold mapOf at hl
  rw [List.length_map] at hl
  clear h
  go_enter Try.func23, Try.ntmps23
  go_wp2
  go_ret
  exact ⟨rfl, rfl⟩
set_option maxHeartbeats 1000000 in
set_option maxRecDepth 100000 in
theorem s_new {W : World} (ga : Nat) (hga : ga < W.heap.size) : Calls Try.prog 10 #[.pointer (some ⟨ga, 0, none⟩)] W fun e w' => ∃ gs mb, e = .returned (.pointer (some ⟨gs, 0, none⟩)) ∧ SX w' gs ga mb 0 [] ∧ Below W.heap.size W w' := by
  have HB := Aside0.mk (Below.refl W.heap.size W)
  have hmm := @run_makeMap Try.prog
  go_enter Try.func10, Try.ntmps10
  go_wp2
  go_ret
  refine ⟨W.heap.size + 1, W.heap.size, rfl, ⟨?_, ?_, by simp, by simp, by simp, by omega, by omega, by simp⟩, (by repeat (first | (with_reducible first | exact HB.out | apply below_alloc | apply pw_below_drewN | apply below_drew1) | exact HB.out))⟩
  · exact blk_new' (by simp)
  · exact (MapL.new W).below (below_alloc (Below.refl _ _) _)
end Go.Proofs.Ytibcbeibehaeeaa.Hand

/- Stores: Get. -/
set_option linter.unusedVariables false
set_option linter.unusedSimpArgs false
namespace Go.Proofs.Ytibcbeibehaeeaa.Hand
open Go.RowKit Go.Proofs.Ytibcbeibehaeeaa.PStorePlays Go.Proofs.YtibcbeibehaeeaaW.PrintWords Go.Proofs.YtibcbeibehaeeaaW.PrintLast Go.Proofs.YtibcbeibehaeeaaW.PrintMore
/-- A map has been turned: what is no map is as it was. -/
theorem AX.turned {W W1 : World} {g mb : Nat} {cap lim : Int} {bs : List S114} (h : AX W g cap lim bs) (hm : W.mapTurned W1 mb) : AX W1 g cap lim bs := by
  have hg := hm.grown
  obtain ⟨es, clock, _, _, hmap, _⟩ := hm
  obtain ⟨bv, fv, h1, h2, h3⟩ := h
  refine ⟨bv, fv, blk_grown h1 hg ?_, Kd.R_mono (Kd.R_grown (Kd.R_bound h2) hg ?_) (fun _ hk => hk.1), Kd.Q_mono (Kd.Q_grown (Kd.Q_bound h3) hg ?_) (fun _ hk => hk.1)⟩
  · intro e
    injection e with e
    subst e
    rw [hmap] at h1
    cases h1
  · intro k hk e
    injection e with e
    subst e
    obtain ⟨_, _, _, _, _, cells, hc⟩ := hk
    rw [hmap] at hc
    cases hc
  · intro k hk e
    injection e with e
    subst e
    obtain ⟨_, _, _, _, _, cells, hc⟩ := hk
    rw [hmap] at hc
    cases hc
set_option maxHeartbeats 1000000 in
set_option maxRecDepth 100000 in
theorem s_get_no {W : World} {gs ga mb N : Nat} {L : List Kt} {cap lim : Int} {bs : List S114} (h : SX W gs ga mb N L) (ha : AX W ga cap lim bs) (k : Int) (hk : I64k k) (hf : findK L k = none) : Calls Try.prog 18 #[.pointer (some ⟨gs, 0, none⟩), .int .i64 k] W fun e w' => e = .returned (.tuple #[.agg #[.int .i64 0, .int .i64 0, .slice none 0 0], .bool false]) ∧ Below W.heap.size W w' := by
  have HB := Aside0.mk (Below.refl W.heap.size W)
  have HL := Aside0.mk (Below.refl W.heap.size W)
  have q0 := blk_cell h.blk 0
  have q1 := blk_cell h.blk 1
  have hlt := blk_lt h.blk
  simp only [List.getElem?_toArray, List.getElem?_cons_zero, List.getElem?_cons_succ] at q0 q1
  have hl := (h.below (below_alloc (Below.refl _ _) (.cells #[.int .i64 0, .int .i64 0, .slice none 0 0] 35))).look_ k hk
  have H := Aside0.mk h
  have HA := Aside0.mk ha
  rw [hf] at hl
  have hl2 : (Instr.lookup 67 (.map (some mb)) (.int .i64 k) true).run Try.prog (W.alloc (.cells #[.int .i64 0, .int .i64 0, .slice none 0 0] 35)) = .ok (.tuple #[.pointer none, .bool false]) (W.alloc (.cells #[.int .i64 0, .int .i64 0, .slice none 0 0] 35)) := hl
  clear hl hf h ha
  go_enter Try.func18, Try.ntmps18
  go_wp2
  exact bodyPost_ret (v := .tuple #[.agg #[.int .i64 0, .int .i64 0, .slice none 0 0], .bool false]) (by simp [results, Try.results18, go_sem]) rfl ⟨rfl, (show Below W.heap.size W _ by repeat (first | (with_reducible first | exact HB.out | apply below_alloc | apply pw_below_drewN | apply below_drew1) | (refine below_set ?_ (Nat.le_refl W.heap.size)) | exact HB.out))⟩
set_option maxHeartbeats 2000000 in
set_option maxRecDepth 100000 in
theorem s_get_yes {W : World} {gs ga mb N : Nat} {L : List Kt} {cap lim : Int} {bs : List S114} (h : SX W gs ga mb N L) (ha : AX W ga cap lim bs) (hg : Good bs) (k : Int) (hk : I64k k) (x : Kt) (hf : findK L k = some x) (hsl : x.sl ≤ 4294967295) (s : ByteArray) (hs : getE bs x.sl x.gn = s) (hsz : s.size ≤ 1000000000000000) (ek et ex : Int) (el : List Int) (he : wgetE s = (ek, et, el, ex)) : Calls Try.prog 18 #[.pointer (some ⟨gs, 0, none⟩), .int .i64 k] W fun e w' => ∃ v : Value, e = .returned (.tuple #[.agg #[.int .i64 ek, .int .i64 et, v], .bool (ex == 0)]) ∧ Kd.R (Kd.int .i64) 2 w' W.heap.size (fun _ => True) v el ∧ Below W.heap.size W w' := by
  have HB := Aside0.mk (Below.refl W.heap.size W)
  have HL := Aside0.mk (Below.refl W.heap.size W)
  have q0 := blk_cell h.blk 0
  have q1 := blk_cell h.blk 1
  have hlt := blk_lt h.blk
  simp only [List.getElem?_toArray, List.getElem?_cons_zero, List.getElem?_cons_succ] at q0 q1
  have hl := (h.below (below_alloc (Below.refl _ _) (.cells #[.int .i64 0, .int .i64 0, .slice none 0 0] 35))).look_ k hk
  have H := Aside0.mk h
  have HA := Aside0.mk ha
  rw [hf] at hl
  have hl2 : (Instr.lookup 67 (.map (some mb)) (.int .i64 k) true).run Try.prog (W.alloc (.cells #[.int .i64 0, .int .i64 0, .slice none 0 0] 35)) = .ok (.tuple #[.pointer (some ⟨x.blk, 0, none⟩), .bool true]) (W.alloc (.cells #[.int .i64 0, .int .i64 0, .slice none 0 0] 35)) := hl
  have hx := h.kept x (findK_some hf).1
  have p0 := blk_cell hx 0
  have p1 := blk_cell hx 1
  have p2 := blk_cell hx 2
  have pl := blk_lt hx
  simp only [List.getElem?_toArray, List.getElem?_cons_zero, List.getElem?_cons_succ] at p0 p1 p2
  have HG := Aside0.mk hg
  have HS := Aside0.mk hs
  have HE := Aside0.mk he
  clear hl hf h ha hg hs he hx
  go_enter Try.func18, Try.ntmps18
  go_upto_region 4 with fail
  refine start_ (n := 14) (S := fun w' => w'.cell? ⟨gs, 0, none⟩ = some (.pointer (some ⟨ga, 0, none⟩)) ∧ w'.cell? ⟨x.blk, 0, none⟩ = some (.int .u32 (x.sl : Int)) ∧ w'.cell? ⟨x.blk, 1, none⟩ = some (.int .u32 x.gn)) (ds := []) #[false, false, false, false, false, false, false, false, false, false, false, false, false, false] (by kernel_rfl) rfl rfl ⟨(pw_cell_below (by repeat (first | (with_reducible first | exact HB.out | apply below_alloc | apply pw_below_drewN | apply below_drew1) | exact HB.out)) q0), (pw_cell_below (by repeat (first | (with_reducible first | exact HB.out | apply below_alloc | apply pw_below_drewN | apply below_drew1) | exact HB.out)) p0), (pw_cell_below (by repeat (first | (with_reducible first | exact HB.out | apply below_alloc | apply pw_below_drewN | apply below_drew1) | exact HB.out)) p1)⟩ (fun hHeld => ?_)
  refine pure_ (i := 0) (N := some 25) (v := ?_) (a' := ?_) #[true, false, false, false, false, false, false, false, false, false, false, false, false, false] rfl rfl (by kernel_rfl) (fun _ _ _ h => h) (Or.inl ⟨by rfl, ?_⟩) ?_ ?_
  rotate_left
  · intro w'
    go_simp
    with_reducible rfl
  rotate_left
  · simp only [Act.put, List.setIfInBounds_toArray, List.set_cons_zero, List.set_cons_succ, i64_w, i32_w]
    rfl
  refine pure_ (i := 1) (N := some 26) (v := ?_) (a' := ?_) #[true, true, false, false, false, false, false, false, false, false, false, false, false, false] rfl rfl (by kernel_rfl) (fun _ _ _ h => h) (Or.inl ⟨by rfl, ?_⟩) ?_ ?_
  rotate_left
  · intro w'
    go_simp
    with_reducible rfl
  rotate_left
  · simp only [Act.put, List.setIfInBounds_toArray, List.set_cons_zero, List.set_cons_succ, i64_w, i32_w]
    rfl
  refine pure_ (i := 2) (N := some 27) (v := ?_) (a' := ?_) #[true, true, true, false, false, false, false, false, false, false, false, false, false, false] rfl rfl (by kernel_rfl) (fun _ _ _ h => h) (Or.inl ⟨by rfl, ?_⟩) ?_ ?_
  rotate_left
  · intro w'
    go_simp
    with_reducible rfl
  rotate_left
  · simp only [Act.put, List.setIfInBounds_toArray, List.set_cons_zero, List.set_cons_succ, i64_w, i32_w]
    rfl
  refine pure_ (i := 4) (N := some 29) (v := ?_) (a' := ?_) #[true, true, true, false, true, false, false, false, false, false, false, false, false, false] rfl rfl (by kernel_rfl) (fun _ _ _ h => h) (Or.inl ⟨by rfl, ?_⟩) ?_ ?_
  rotate_left
  · intro w'
    go_simp
    with_reducible rfl
  rotate_left
  · simp only [Act.put, List.setIfInBounds_toArray, List.set_cons_zero, List.set_cons_succ, i64_w, i32_w]
    rfl
  refine pure_ (i := 5) (N := some 30) (v := ?_) (a' := ?_) #[true, true, true, false, true, true, false, false, false, false, false, false, false, false] rfl rfl (by kernel_rfl) (fun _ _ _ h => h) (Or.inl ⟨by rfl, ?_⟩) ?_ ?_
  rotate_left
  · intro w'
    go_simp
    with_reducible rfl
  rotate_left
  · simp only [Act.put, List.setIfInBounds_toArray, List.set_cons_zero, List.set_cons_succ, i64_w, i32_w]
    rfl
  refine pure_ (i := 6) (N := some 31) (v := ?_) (a' := ?_) #[true, true, true, false, true, true, true, false, false, false, false, false, false, false] rfl rfl (by kernel_rfl) (fun _ _ _ h => h) (Or.inl ⟨by rfl, ?_⟩) ?_ ?_
  rotate_left
  · intro w'
    go_simp
    with_reducible rfl
  rotate_left
  · simp only [Act.put, List.setIfInBounds_toArray, List.set_cons_zero, List.set_cons_succ, i64_w, i32_w]
    rfl
  refine take_ (i := 3) (N := some 28) (v := ?_) (a' := ?_) #[true, true, true, true, true, true, true, false, false, false, false, false, false, false] rfl rfl (by kernel_rfl) (fun _ _ _ h => h) (Or.inl ⟨by rfl, ?_⟩) hHeld ?_ ?_
  rotate_left
  · rintro w' ⟨s0, s1, s2⟩
    go_simp
    with_reducible rfl
  rotate_left
  · simp only [Act.put, List.setIfInBounds_toArray, List.set_cons_zero, List.set_cons_succ, i64_w, i32_w]
    rfl
  refine take_ (i := 7) (N := some 32) (v := ?_) (a' := ?_) #[true, true, true, true, true, true, true, true, false, false, false, false, false, false] rfl rfl (by kernel_rfl) (fun _ _ _ h => h) (Or.inl ⟨by rfl, ?_⟩) hHeld ?_ ?_
  rotate_left
  · rintro w' ⟨s0, s1, s2⟩
    go_simp
    with_reducible rfl
  rotate_left
  · simp only [Act.put, List.setIfInBounds_toArray, List.set_cons_zero, List.set_cons_succ, i64_w, i32_w]
    rfl
  refine one_ (i := 8) (N := some 33) #[true, true, true, true, true, true, true, true, true, false, false, false, false, false] rfl rfl (by kernel_rfl) (by decide) (fun Kc hKc => ?_)
  refine goes_ Try.func39 (by kernel_rfl) rfl #[.pointer (some ⟨ga, 0, none⟩), .agg #[.int .u32 (x.sl : Int), .int .u32 x.gn]] (by rfl) rfl rfl (by simp only [List.map_toArray, List.map_cons, List.map_nil]; rfl) ?_
  with_reducible refine (x_get (HA.out.below (by repeat (first | (with_reducible first | exact HB.out | apply below_alloc | apply pw_below_drewN | apply below_drew1) | exact HB.out))) HG.out x.sl x.gn hsl).mono ?_
  rintro e w1 ⟨rfl, hb⟩
  rw [HS.out]
  refine ⟨_, rfl, ?_⟩
  have B4 := Aside0.mk (blk_below (o := .cells #[.int .i64 0, .int .i64 0, .slice none 0 0] 35 (0, 0)) (g := W.heap.size) (by repeat (first | (with_reducible refine blk_drewN ?_ _) | (with_reducible refine blk_drew ?_) | exact blk_new' (by first | rfl | simp) | (with_reducible refine blk_alloc ?_ _))) hb)
  have n0_ := Aside0.mk (below_step (by repeat (first | (with_reducible first | exact HB.out | apply below_alloc | apply pw_below_drewN | apply below_drew1) | exact HB.out)) hb)
  clear HB
  have HB := n0_
  clear n0_
  refine hKc.out _ _ ⟨pw_cell_below hb hHeld.1, pw_cell_below hb hHeld.2.1, pw_cell_below hb hHeld.2.2⟩ (fun hHeld => ?_)
  clear hKc Kc
  refine norm_ (a' := ?_) ?_ ?_
  rotate_left
  · show Act.put _ (some 33) _ = _
    simp only [Act.put, List.setIfInBounds_toArray, List.set_cons_zero, List.set_cons_succ, i64_w, i32_w]
    rfl
  refine pure_ (i := 9) (N := some 24) (v := ?_) (a' := ?_) #[true, true, true, true, true, true, true, true, true, true, false, false, false, false] rfl rfl (by kernel_rfl) (fun _ _ _ h => h) (Or.inl ⟨by rfl, ?_⟩) ?_ ?_
  rotate_left
  · intro w'
    go_simp
    with_reducible rfl
  rotate_left
  · simp only [Act.put, List.setIfInBounds_toArray, List.set_cons_zero, List.set_cons_succ, i64_w, i32_w]
    rfl
  refine pure_ (i := 10) (N := some 34) (v := ?_) (a' := ?_) #[true, true, true, true, true, true, true, true, true, true, true, false, false, false] rfl rfl (by kernel_rfl) (fun _ _ _ h => h) (Or.inl ⟨by rfl, ?_⟩) ?_ ?_
  rotate_left
  · intro w'
    go_simp
    with_reducible rfl
  rotate_left
  · simp only [Act.put, List.setIfInBounds_toArray, List.set_cons_zero, List.set_cons_succ, i64_w, i32_w]
    rfl
  refine pure_ (i := 11) (N := some 35) (v := ?_) (a' := ?_) #[true, true, true, true, true, true, true, true, true, true, true, true, false, false] rfl rfl (by kernel_rfl) (fun _ _ _ h => h) (Or.inl ⟨by rfl, ?_⟩) ?_ ?_
  rotate_left
  · intro w'
    go_simp
    with_reducible rfl
  rotate_left
  · simp only [Act.put, List.setIfInBounds_toArray, List.set_cons_zero, List.set_cons_succ, i64_w, i32_w]
    rfl
  refine pure_ (i := 12) (N := some 8) (v := ?_) (a' := ?_) #[true, true, true, true, true, true, true, true, true, true, true, true, true, false] rfl rfl (by kernel_rfl) (fun _ _ _ h => h) (Or.inl ⟨by rfl, ?_⟩) ?_ ?_
  rotate_left
  · intro w'
    go_simp
    with_reducible rfl
  rotate_left
  · simp only [Act.put, List.setIfInBounds_toArray, List.set_cons_zero, List.set_cons_succ, i64_w, i32_w]
    rfl
  refine pure_ (i := 13) (N := some 9) (v := ?_) (a' := ?_) #[true, true, true, true, true, true, true, true, true, true, true, true, true, true] rfl rfl (by kernel_rfl) (fun _ _ _ h => h) (Or.inl ⟨by rfl, ?_⟩) ?_ ?_
  rotate_left
  · intro w'
    go_simp
    with_reducible rfl
  rotate_left
  · simp only [Act.put, List.setIfInBounds_toArray, List.set_cons_zero, List.set_cons_succ, i64_w, i32_w]
    rfl
  refine done_ (by kernel_rfl) ?_
  go_wp2_with (first | (go_at_call 40; (with_reducible refine (wget_c s _ hsz ek et ex el HE.out).mono ?_); rintro e w2 ⟨v, rfl, hR, hb⟩; obtain ⟨A2, c2, e2⟩ := Kd.R_slice hR; subst e2; have R2 := Aside0.mk (Kd.R_lower hR (below_size HB.out)); have b4_ := Aside0.mk (blk_below B4.out (by repeat (first | (with_reducible first | exact Below.refl _ _ | apply below_alloc | apply pw_below_drewN | apply below_drew1) | exact Below.refl _ _))); have B5 := Aside0.mk (blk_below b4_.out hb); have n0_ := Aside0.mk (below_step (by repeat (first | (with_reducible first | exact HB.out | apply below_alloc | apply pw_below_drewN | apply below_drew1) | exact HB.out)) hb); clear HB B4 b4_; have HB := n0_; clear n0_; have y0 := blk_cell B5.out 0; have y1 := blk_cell B5.out 1; have y2 := blk_cell B5.out 2; have yf0 := blk_frozen B5.out 0; have yf1 := blk_frozen B5.out 1; have yf2 := blk_frozen B5.out 2; have yl := blk_lt B5.out; simp only [List.getElem?_toArray, List.getElem?_cons_zero, List.getElem?_cons_succ] at y0 y1 y2; clear hR hb))
  have b7 := blk_set B5.out 0 (.int .i64 ek)
  have b8 := blk_set b7 1 (.int .i64 et)
  have b9 := blk_set b8 2 (.slice A2 el.length c2)
  have bA := blk_alloc b9 (.cells #[.int .i64 ek, .int .i64 et, .slice A2 el.length c2] 35)
  have yr0 := blk_cell bA 0
  have yr1 := blk_cell bA 1
  have yr2 := blk_cell bA 2
  simp at yr0 yr1 yr2
  have R4 := Kd.R_set R2.out B5.out (by intro q hq e; subst e; exact absurd hq (by simp [Kd.int, Kd.scalar])) 0 (.int .i64 ek)
  have R5 := Kd.R_set R4 b7 (by intro q hq e; subst e; exact absurd hq (by simp [Kd.int, Kd.scalar])) 1 (.int .i64 et)
  have R6 := Kd.R_set R5 b8 (by intro q hq e; subst e; exact absurd hq (by simp [Kd.int, Kd.scalar])) 2 (.slice A2 el.length c2)
  have R7 := Kd.R_below R6 (below_alloc (Below.refl _ _) (.cells #[.int .i64 ek, .int .i64 et, .slice A2 el.length c2] 35))
  exact bodyPost_ret (v := .tuple #[.agg #[.int .i64 ek, .int .i64 et, .slice A2 el.length c2], .bool (ex == 0)]) (by simp [results, Try.results18, go_sem, yr0, yr1, yr2]) rfl ⟨_, rfl, R7, (show Below W.heap.size W _ by repeat (first | (with_reducible first | exact HB.out | apply below_alloc | apply pw_below_drewN | apply below_drew1) | (refine below_set ?_ (Nat.le_refl W.heap.size)) | exact HB.out))⟩
end Go.Proofs.Ytibcbeibehaeeaa.Hand

/- Stores: Drop. -/
set_option linter.unusedVariables false
set_option linter.unusedSimpArgs false
namespace Go.Proofs.Ytibcbeibehaeeaa.Hand
open Go.RowKit Go.Proofs.Ytibcbeibehaeeaa.PStorePlays Go.Proofs.YtibcbeibehaeeaaW.PrintWords Go.Proofs.YtibcbeibehaeeaaW.PrintLast Go.Proofs.YtibcbeibehaeeaaW.PrintMore
/-- What was kept under a key is no more. -/
def dropK (L : List Kt) (k : Int) : List Kt := L.filter fun x => x.key != k
theorem dropK_bump (L : List Kt) (k d : Int) : dropK (bump L k d) k = dropK L k := by
  unfold dropK bump
  induction L with
  | nil => rfl
  | cons x r ih =>
    rw [List.map_cons]
    by_cases e : x.key = k
    · rw [if_pos e]
      have e1 : (x.key != k) = false := by simp [e]
      rw [List.filter_cons, List.filter_cons, e1, if_neg (by simp), if_neg (by simp)]
      exact ih
    · rw [if_neg e]
      have e1 : (x.key != k) = true := by simp [e]
      rw [List.filter_cons, List.filter_cons, e1, if_pos rfl, if_pos rfl, ih]
theorem mapOf_dropK (L : List Kt) (k : Int) : mapOf (dropK L k) = (mapOf L).filter (fun p => p.1 != k) := by
  unfold mapOf dropK
  rw [List.filter_map]
  rfl
theorem SX.drop_ {W : World} {gs ga mb N : Nat} {L : List Kt} (h : SX W gs ga mb N L) (k : Int) (hk : I64k k) : ∃ w', (Builtin.delete_ #[67, 3] 0 #[.map (some mb), .int .i64 k]).run Try.prog W = .ok (.tuple #[]) w' ∧ SX w' gs ga mb N (dropK L k) ∧ W.mapTurned w' mb := by
  obtain ⟨w', hr, hM, ht⟩ := h.map.drop_ k hk (by have := h.keys; unfold mapOf; rw [List.map_map]; exact this) 67 0 Try.underlying67
  have hg := ht.grown
  obtain ⟨es, clock, _, _, hmap, _⟩ := ht
  have ne : ∀ b cs q, W.heap[b]? = some (.cells cs q (0, 0)) → some b ≠ some mb := by
    intro b cs q hb e
    injection e with e
    subst e
    rw [hmap] at hb
    cases hb
  refine ⟨w', hr, ⟨blk_grown h.blk hg (ne _ _ _ h.blk), by rw [mapOf_dropK]; exact hM, fun x hx => ?_, ?_, ?_, h.low.1, h.low.2.1, fun x hx => h.low.2.2 x (List.mem_filter.1 hx).1⟩, ⟨es, clock, _, _, hmap, by assumption⟩⟩
  · have hb := h.kept x (List.mem_filter.1 hx).1
    exact blk_grown hb hg (ne _ _ _ hb)
  · exact (List.filter_sublist.map _).nodup h.keys
  · exact (List.filter_sublist.map _).nodup h.blks
set_option maxHeartbeats 1000000 in
set_option maxRecDepth 100000 in
theorem s_drop_no {W : World} {gs ga mb N : Nat} {L : List Kt} {cap lim : Int} {bs : List S114} (h : SX W gs ga mb N L) (ha : AX W ga cap lim bs) (hg : Good bs) (k : Int) (hk : I64k k) (hf : findK L k = none) : Calls Try.prog 16 #[.pointer (some ⟨gs, 0, none⟩), .int .i64 k] W fun e w' => e = .returned (.bool false) ∧ w' = W := by
  have q0 := blk_cell h.blk 0
  have q1 := blk_cell h.blk 1
  have hlt := blk_lt h.blk
  simp only [List.getElem?_toArray, List.getElem?_cons_zero, List.getElem?_cons_succ] at q0 q1
  have hl := h.look_ k hk
  have H := Aside0.mk h
  have HA := Aside0.mk ha
  rw [hf] at hl
  have hl2 : (Instr.lookup 67 (.map (some mb)) (.int .i64 k) true).run Try.prog W = .ok (.tuple #[.pointer none, .bool false]) W := hl
  clear hl hf h ha
  go_enter Try.func16, Try.ntmps16
  go_wp2
  go_ret
  exact ⟨rfl, rfl⟩
set_option maxHeartbeats 1000000 in
set_option maxRecDepth 100000 in
theorem s_drop_more {W : World} {gs ga mb N : Nat} {L : List Kt} {cap lim : Int} {bs : List S114} (h : SX W gs ga mb N L) (ha : AX W ga cap lim bs) (hg : Good bs) (k : Int) (hk : I64k k) (x : Kt) (hf : findK L k = some x) (hm : 2 ≤ x.many) (hm2 : x.many ≤ 1000000) : Calls Try.prog 16 #[.pointer (some ⟨gs, 0, none⟩), .int .i64 k] W fun e w' => e = .returned (.bool true) ∧ SX w' gs ga mb N (bump L k (-1)) ∧ AX w' ga cap lim bs ∧ FS ga W w' := by
  have q0 := blk_cell h.blk 0
  have q1 := blk_cell h.blk 1
  have hlt := blk_lt h.blk
  simp only [List.getElem?_toArray, List.getElem?_cons_zero, List.getElem?_cons_succ] at q0 q1
  have hl := h.look_ k hk
  have H := Aside0.mk h
  have HA := Aside0.mk ha
  rw [hf] at hl
  have hl2 : (Instr.lookup 67 (.map (some mb)) (.int .i64 k) true).run Try.prog W = .ok (.tuple #[.pointer (some ⟨x.blk, 0, none⟩), .bool true]) W := hl
  obtain ⟨hxm, hxk⟩ := findK_some hf
  have hx := h.kept x hxm
  have p0 := blk_cell hx 0
  have p1 := blk_cell hx 1
  have p2 := blk_cell hx 2
  have pf := blk_frozen hx 2
  have pl := blk_lt hx
  simp only [List.getElem?_toArray, List.getElem?_cons_zero, List.getElem?_cons_succ] at p0 p1 p2
  have HM := Aside0.mk hxm
  have HK := Aside0.mk hxk
  have HG := Aside0.mk hg
  have HXB := Aside0.mk hx
  have z1 : (x.many - 1 == 0) = false := by simp; omega
  clear hl hf h ha hx hxm hxk hg
  go_enter Try.func16, Try.ntmps16
  go_wp2
  go_ret
  have hB := H.out.bump_ HM.out (-1) (x.many - 1) (by omega)
  rw [HK.out] at hB
  exact ⟨rfl, hB.1, HA.out.other HXB.out (by unfold AT; decide) 2 _, hB.2⟩
set_option maxHeartbeats 2000000 in
set_option maxRecDepth 100000 in
theorem s_drop_last {W : World} {gs ga mb N : Nat} {L : List Kt} {cap lim : Int} {bs : List S114} (h : SX W gs ga mb N L) (ha : AX W ga cap lim bs) (hg : Good bs) (k : Int) (hk : I64k k) (x : Kt) (hf : findK L k = some x) (hm : x.many = 1) (hsl : x.sl ≤ 4294967295) : Calls Try.prog 16 #[.pointer (some ⟨gs, 0, none⟩), .int .i64 k] W fun e w' => e = .returned (.bool true) ∧ SX w' gs ga mb N (dropK L k) ∧ AX w' ga cap lim (freeB bs x.sl x.gn) ∧ FS ga W w' := by
  have q0 := blk_cell h.blk 0
  have q1 := blk_cell h.blk 1
  have hlt := blk_lt h.blk
  simp only [List.getElem?_toArray, List.getElem?_cons_zero, List.getElem?_cons_succ] at q0 q1
  have hl := h.look_ k hk
  have H := Aside0.mk h
  have HA := Aside0.mk ha
  rw [hf] at hl
  have hl2 : (Instr.lookup 67 (.map (some mb)) (.int .i64 k) true).run Try.prog W = .ok (.tuple #[.pointer (some ⟨x.blk, 0, none⟩), .bool true]) W := hl
  obtain ⟨hxm, hxk⟩ := findK_some hf
  have hx := h.kept x hxm
  have p0 := blk_cell hx 0
  have p1 := blk_cell hx 1
  have p2 := blk_cell hx 2
  have pf := blk_frozen hx 2
  have pl := blk_lt hx
  simp only [List.getElem?_toArray, List.getElem?_cons_zero, List.getElem?_cons_succ] at p0 p1 p2
  have HM := Aside0.mk hxm
  have HK := Aside0.mk hxk
  have HG := Aside0.mk hg
  have HXB := Aside0.mk hx
  rw [hm] at p2
  have HM1 := Aside0.mk hm
  clear hl hf h ha hx hxm hxk hg hm
  go_enter Try.func16, Try.ntmps16
  go_upto_region 6 with fail
  have hB := H.out.bump_ HM.out (-1) 0 (by rw [HM1.out]; rfl)
  rw [HK.out] at hB
  have HB1 := Aside0.mk hB.1
  have HF1 := Aside0.mk hB.2
  have HA1 := Aside0.mk (HA.out.other HXB.out (by unfold AT; decide) 2 (.int .i64 0))
  have HX1 := Aside0.mk (blk_set HXB.out 2 (.int .i64 0))
  generalize W.setCell ⟨x.blk, 2, none⟩ (.int .i64 0) = W1 at *
  clear hB hl2 q0 q1 hlt p0 p1 p2 pf pl
  have q0 := blk_cell HB1.out.blk 0
  have p0 := blk_cell HX1.out 0
  have p1 := blk_cell HX1.out 1
  simp at q0 p0 p1
  refine start_ (n := 9) (S := fun w' => w'.cell? ⟨gs, 0, none⟩ = some (.pointer (some ⟨ga, 0, none⟩)) ∧ w'.cell? ⟨x.blk, 0, none⟩ = some (.int .u32 (x.sl : Int)) ∧ w'.cell? ⟨x.blk, 1, none⟩ = some (.int .u32 x.gn)) (ds := []) #[false, false, false, false, false, false, false, false, false] (by kernel_rfl) rfl rfl ⟨q0, p0, p1⟩ (fun hHeld => ?_)
  refine pure_ (i := 0) (N := some 30) (v := ?_) (a' := ?_) #[true, false, false, false, false, false, false, false, false] rfl rfl (by kernel_rfl) (fun _ _ _ h => h) (Or.inl ⟨by rfl, ?_⟩) ?_ ?_
  rotate_left
  · intro w'
    go_simp
    with_reducible rfl
  rotate_left
  · simp only [Act.put, List.setIfInBounds_toArray, List.set_cons_zero, List.set_cons_succ, i64_w, i32_w]
    rfl
  refine pure_ (i := 1) (N := some 31) (v := ?_) (a' := ?_) #[true, true, false, false, false, false, false, false, false] rfl rfl (by kernel_rfl) (fun _ _ _ h => h) (Or.inl ⟨by rfl, ?_⟩) ?_ ?_
  rotate_left
  · intro w'
    go_simp
    with_reducible rfl
  rotate_left
  · simp only [Act.put, List.setIfInBounds_toArray, List.set_cons_zero, List.set_cons_succ, i64_w, i32_w]
    rfl
  refine pure_ (i := 2) (N := some 32) (v := ?_) (a' := ?_) #[true, true, true, false, false, false, false, false, false] rfl rfl (by kernel_rfl) (fun _ _ _ h => h) (Or.inl ⟨by rfl, ?_⟩) ?_ ?_
  rotate_left
  · intro w'
    go_simp
    with_reducible rfl
  rotate_left
  · simp only [Act.put, List.setIfInBounds_toArray, List.set_cons_zero, List.set_cons_succ, i64_w, i32_w]
    rfl
  refine pure_ (i := 4) (N := some 34) (v := ?_) (a' := ?_) #[true, true, true, false, true, false, false, false, false] rfl rfl (by kernel_rfl) (fun _ _ _ h => h) (Or.inl ⟨by rfl, ?_⟩) ?_ ?_
  rotate_left
  · intro w'
    go_simp
    with_reducible rfl
  rotate_left
  · simp only [Act.put, List.setIfInBounds_toArray, List.set_cons_zero, List.set_cons_succ, i64_w, i32_w]
    rfl
  refine pure_ (i := 5) (N := some 35) (v := ?_) (a' := ?_) #[true, true, true, false, true, true, false, false, false] rfl rfl (by kernel_rfl) (fun _ _ _ h => h) (Or.inl ⟨by rfl, ?_⟩) ?_ ?_
  rotate_left
  · intro w'
    go_simp
    with_reducible rfl
  rotate_left
  · simp only [Act.put, List.setIfInBounds_toArray, List.set_cons_zero, List.set_cons_succ, i64_w, i32_w]
    rfl
  refine pure_ (i := 6) (N := some 36) (v := ?_) (a' := ?_) #[true, true, true, false, true, true, true, false, false] rfl rfl (by kernel_rfl) (fun _ _ _ h => h) (Or.inl ⟨by rfl, ?_⟩) ?_ ?_
  rotate_left
  · intro w'
    go_simp
    with_reducible rfl
  rotate_left
  · simp only [Act.put, List.setIfInBounds_toArray, List.set_cons_zero, List.set_cons_succ, i64_w, i32_w]
    rfl
  refine take_ (i := 3) (N := some 33) (v := ?_) (a' := ?_) #[true, true, true, true, true, true, true, false, false] rfl rfl (by kernel_rfl) (fun _ _ _ h => h) (Or.inl ⟨by rfl, ?_⟩) hHeld ?_ ?_
  rotate_left
  · rintro w' ⟨s0, s1, s2⟩
    go_simp
    with_reducible rfl
  rotate_left
  · simp only [Act.put, List.setIfInBounds_toArray, List.set_cons_zero, List.set_cons_succ, i64_w, i32_w]
    rfl
  refine take_ (i := 7) (N := some 37) (v := ?_) (a' := ?_) #[true, true, true, true, true, true, true, true, false] rfl rfl (by kernel_rfl) (fun _ _ _ h => h) (Or.inl ⟨by rfl, ?_⟩) hHeld ?_ ?_
  rotate_left
  · rintro w' ⟨s0, s1, s2⟩
    go_simp
    with_reducible rfl
  rotate_left
  · simp only [Act.put, List.setIfInBounds_toArray, List.set_cons_zero, List.set_cons_succ, i64_w, i32_w]
    rfl
  refine one_ (i := 8) (N := some 38) #[true, true, true, true, true, true, true, true, true] rfl rfl (by kernel_rfl) (by decide) (fun Kc hKc => ?_)
  refine goes_ Try.func37 (by kernel_rfl) rfl #[.pointer (some ⟨ga, 0, none⟩), .agg #[.int .u32 (x.sl : Int), .int .u32 x.gn]] (by rfl) rfl rfl (by simp only [List.map_toArray, List.map_cons, List.map_nil]; rfl) ?_
  with_reducible refine (x_free (HA1.out.below (show Below W1.heap.size W1 _ by repeat (first | (with_reducible first | exact Below.refl _ _ | apply below_alloc | apply pw_below_drewN | apply below_drew1) | exact Below.refl _ _))) HG.out x.sl x.gn hsl).mono ?_
  rintro e w2 ⟨rfl, hA, hF0⟩
  refine ⟨_, rfl, ?_⟩
  have hF := Fr.trans (Fr.of_below (show Below W1.heap.size W1 _ by repeat (first | (with_reducible first | exact Below.refl _ _ | apply below_alloc | apply pw_below_drewN | apply below_drew1) | exact Below.refl _ _))) hF0
  have HA2 := Aside0.mk hA
  have HB2 := Aside0.mk (HB1.out.fr hF)
  have HX2 := Aside0.mk (hF.blk HX1.out (by unfold AT; decide))
  have HF2 := Aside0.mk (HF1.out.trans (FS.of_fr hF))
  have u0 := blk_cell HB2.out.blk 0
  have u1 := blk_cell HX2.out 0
  have u2 := blk_cell HX2.out 1
  simp at u0 u1 u2
  clear hA hF hF0
  refine hKc.out _ _ ⟨u0, u1, u2⟩ (fun hHeld => ?_)
  clear hKc Kc
  refine norm_ (a' := ?_) ?_ ?_
  rotate_left
  · show Act.put _ (some 38) _ = _
    simp only [Act.put, List.setIfInBounds_toArray, List.set_cons_zero, List.set_cons_succ, i64_w, i32_w]
    rfl
  refine done_ (by kernel_rfl) ?_
  have v1 := blk_cell HB2.out.blk 1
  have vl := blk_lt HB2.out.blk
  simp only [List.getElem?_toArray, List.getElem?_cons_zero, List.getElem?_cons_succ] at v1
  obtain ⟨w3, hr, hS3, ht3⟩ := HB2.out.drop_ k hk
  have HS3 := Aside0.mk hS3
  have HT3 := Aside0.mk ht3
  clear hS3 ht3 u0 u1 u2 q0 p0 p1 hHeld
  go_wp2
  go_ret
  have hS := HS3.out
  rw [dropK_bump] at hS
  exact ⟨rfl, hS, HA2.out.turned HT3.out, HF2.out.trans (FS.turned HT3.out HB2.out.low.2.1)⟩
end Go.Proofs.Ytibcbeibehaeeaa.Hand

/- Stores: Put. -/
set_option linter.unusedVariables false
set_option linter.unusedSimpArgs false
namespace Go.Proofs.Ytibcbeibehaeeaa.Hand
open Go.RowKit Go.Proofs.Ytibcbeibehaeeaa.PStorePlays Go.Proofs.YtibcbeibehaeeaaW.PrintWords Go.Proofs.YtibcbeibehaeeaaW.PrintLast Go.Proofs.YtibcbeibehaeeaaW.PrintMore
theorem SX.put_ {W : World} {gs ga mb N : Nat} {L : List Kt} (h : SX W gs ga mb N L) (k : Int) (hk : I64k k) (hf : findK L k = none) (b sl : Nat) (gn : Int) (hb : W.heap[b]? = some (.cells #[.int .u32 (sl : Int), .int .u32 gn, .int .i64 1] 83 (0, 0))) (hnb : ∀ x ∈ L, x.blk ≠ b) (hlow : ga ≤ b) (hN : N < 1000000) : ∃ w', (Instr.mapUpdate 67 (.map (some mb)) (.int .i64 k) (.pointer (some ⟨b, 0, none⟩))).run Try.prog W = .ok () w' ∧ SX w' gs ga mb (N + 1) (L ++ [⟨k, b, sl, gn, 1⟩]) ∧ W.mapTurned w' mb := by
  obtain ⟨w', hr, hM, ht⟩ := h.map.store_ k hk b (by rw [look_mapOf, hf]; rfl) hN 67 Try.underlying67
  have hg := ht.grown
  have ht2 := ht
  obtain ⟨es, clock, _, _, hmap, _⟩ := ht
  have ne : ∀ b cs q, W.heap[b]? = some (.cells cs q (0, 0)) → some b ≠ some mb := by
    intro b cs q hb e
    injection e with e
    subst e
    rw [hmap] at hb
    cases hb
  have hkk : ∀ x ∈ L, x.key ≠ k := by
    intro x hx e
    have := List.find?_eq_none.1 hf x hx
    simp [e] at this
  refine ⟨w', hr, ⟨blk_grown h.blk hg (ne _ _ _ h.blk), ?_, fun x hx => ?_, ?_, ?_, h.low.1, h.low.2.1, fun x hx => ?_⟩, ht2⟩
  · unfold mapOf at hM ⊢
    rw [List.map_append]
    exact hM
  · rcases List.mem_append.1 hx with hx | hx
    · exact blk_grown (h.kept x hx) hg (ne _ _ _ (h.kept x hx))
    · rw [List.mem_singleton] at hx
      subst hx
      exact blk_grown hb hg (ne _ _ _ hb)
  · rw [List.map_append]
    refine List.nodup_append.2 ⟨h.keys, by simp, ?_⟩
    intro a ha c hc
    obtain ⟨x, hx, rfl⟩ := List.mem_map.1 ha
    simp at hc
    subst hc
    exact hkk x hx
  · rw [List.map_append]
    refine List.nodup_append.2 ⟨h.blks, by simp, ?_⟩
    intro a ha c hc
    obtain ⟨x, hx, rfl⟩ := List.mem_map.1 ha
    simp at hc
    subst hc
    exact hnb x hx
  · rcases List.mem_append.1 hx with hx | hx
    · exact h.low.2.2 x hx
    · rw [List.mem_singleton] at hx
      subst hx
      exact hlow
set_option maxHeartbeats 1000000 in
set_option maxRecDepth 100000 in
theorem s_put_form {W : World} {gs ga mb N : Nat} {L : List Kt} {cap lim : Int} {bs : List S114} (h : SX W gs ga mb N L) (ha : AX W ga cap lim bs) (hg : Good bs) (k : Int) (hk : I64k k) (ek et : Int) (el : List Int) (A : Option Addr) (c : Nat) (hr : Kd.C (Kd.int .i64) W A el.length el) (s : ByteArray) (hp : putE ek et el = (s, false)) : Calls Try.prog 12 #[.pointer (some ⟨gs, 0, none⟩), .int .i64 k, .agg #[.int .i64 ek, .int .i64 et, .slice A el.length c]] W fun e w' => e = .returned (.int .i64 7) ∧ Below W.heap.size W w' := by
  have HB := Aside0.mk (Below.refl W.heap.size W)
  have q0 := blk_cell h.blk 0
  have q1 := blk_cell h.blk 1
  have hlt := blk_lt h.blk
  simp only [List.getElem?_toArray, List.getElem?_cons_zero, List.getElem?_cons_succ] at q0 q1
  have H := Aside0.mk h
  have HA := Aside0.mk ha
  have HG := Aside0.mk hg
  have HR := Aside0.mk hr
  have HP := Aside0.mk hp
  clear h ha hg hr hp
  go_enter Try.func12, Try.ntmps12
  go_wp2_with (first | (go_at_call 32; (with_reducible refine (wput_c ek et el A c _ (Kd.C_below HR.out (by repeat (first | (with_reducible first | exact HB.out | apply below_alloc | apply pw_below_drewN | apply below_drew1) | exact HB.out)))).mono ?_); rintro e w1 ⟨rfl, hb⟩; rw [HP.out]; have n0_ := Aside0.mk (below_step (by repeat (first | (with_reducible first | exact HB.out | apply below_alloc | apply pw_below_drewN | apply below_drew1) | exact HB.out)) hb); clear HB; have HB := n0_; clear n0_; clear q0 q1 hlt; have H1 := Aside0.mk (H.out.below HB.out); have q0 := blk_cell H1.out.blk 0; have q1 := blk_cell H1.out.blk 1; have hlt := blk_lt H1.out.blk; simp only [List.getElem?_toArray, List.getElem?_cons_zero, List.getElem?_cons_succ] at q0 q1; have hl := H1.out.look_ k hk; clear hb))
  go_ret
  exact ⟨rfl, (by repeat (first | (with_reducible first | exact HB.out | apply below_alloc | apply pw_below_drewN | apply below_drew1) | exact HB.out))⟩
set_option maxHeartbeats 1000000 in
set_option maxRecDepth 100000 in
theorem s_put_arg {W : World} {gs ga mb N : Nat} {L : List Kt} {cap lim : Int} {bs : List S114} (h : SX W gs ga mb N L) (ha : AX W ga cap lim bs) (hg : Good bs) (k : Int) (hk : I64k k) (ek et : Int) (el : List Int) (A : Option Addr) (c : Nat) (hr : Kd.C (Kd.int .i64) W A el.length el) (s : ByteArray) (hp : putE ek et el = (s, true)) (x : Kt) (hf : findK L k = some x) : Calls Try.prog 12 #[.pointer (some ⟨gs, 0, none⟩), .int .i64 k, .agg #[.int .i64 ek, .int .i64 et, .slice A el.length c]] W fun e w' => e = .returned (.int .i64 1) ∧ Below W.heap.size W w' := by
  have HB := Aside0.mk (Below.refl W.heap.size W)
  have q0 := blk_cell h.blk 0
  have q1 := blk_cell h.blk 1
  have hlt := blk_lt h.blk
  simp only [List.getElem?_toArray, List.getElem?_cons_zero, List.getElem?_cons_succ] at q0 q1
  have H := Aside0.mk h
  have HA := Aside0.mk ha
  have HG := Aside0.mk hg
  have HR := Aside0.mk hr
  have HP := Aside0.mk hp
  have HF := Aside0.mk hf
  clear h ha hg hr hp hf
  go_enter Try.func12, Try.ntmps12
  go_wp2_with (first | (go_at_call 32; (with_reducible refine (wput_c ek et el A c _ (Kd.C_below HR.out (by repeat (first | (with_reducible first | exact HB.out | apply below_alloc | apply pw_below_drewN | apply below_drew1) | exact HB.out)))).mono ?_); rintro e w1 ⟨rfl, hb⟩; rw [HP.out]; have n0_ := Aside0.mk (below_step (by repeat (first | (with_reducible first | exact HB.out | apply below_alloc | apply pw_below_drewN | apply below_drew1) | exact HB.out)) hb); clear HB; have HB := n0_; clear n0_; clear q0 q1 hlt; have H1 := Aside0.mk (H.out.below HB.out); have q0 := blk_cell H1.out.blk 0; have q1 := blk_cell H1.out.blk 1; have hlt := blk_lt H1.out.blk; simp only [List.getElem?_toArray, List.getElem?_cons_zero, List.getElem?_cons_succ] at q0 q1; have hl := H1.out.look_ k hk; rw [HF.out] at hl; have hl2 : (Instr.lookup 67 (.map (some mb)) (.int .i64 k) true).run Try.prog w1 = .ok (.tuple #[.pointer (some ⟨x.blk, 0, none⟩), .bool true]) w1 := hl; clear hl; clear hb))
  go_ret
  exact ⟨rfl, (by repeat (first | (with_reducible first | exact HB.out | apply below_alloc | apply pw_below_drewN | apply below_drew1) | exact HB.out))⟩
set_option maxHeartbeats 1000000 in
set_option maxRecDepth 100000 in
theorem s_put_err {W : World} {gs ga mb N : Nat} {L : List Kt} {cap lim : Int} {bs : List S114} (h : SX W gs ga mb N L) (ha : AX W ga cap lim bs) (hg : Good bs) (k : Int) (hk : I64k k) (ek et : Int) (el : List Int) (A : Option Addr) (c : Nat) (hr : Kd.C (Kd.int .i64) W A el.length el) (s : ByteArray) (hp : putE ek et el = (s, true)) (hf : findK L k = none) (sl gn er : Int) (he : allocE lim bs s.size = (sl, gn, er)) (her : (er == 0) = false) : Calls Try.prog 12 #[.pointer (some ⟨gs, 0, none⟩), .int .i64 k, .agg #[.int .i64 ek, .int .i64 et, .slice A el.length c]] W fun e w' => e = .returned (.int .i64 er) ∧ SX w' gs ga mb N L ∧ AX w' ga cap lim (allocB lim bs s) ∧ FS ga W w' := by
  have HB := Aside0.mk (Below.refl W.heap.size W)
  have q0 := blk_cell h.blk 0
  have q1 := blk_cell h.blk 1
  have hlt := blk_lt h.blk
  simp only [List.getElem?_toArray, List.getElem?_cons_zero, List.getElem?_cons_succ] at q0 q1
  have H := Aside0.mk h
  have HA := Aside0.mk ha
  have HG := Aside0.mk hg
  have HR := Aside0.mk hr
  have HP := Aside0.mk hp
  have HF := Aside0.mk hf
  have HE := Aside0.mk he
  clear h ha hg hr hp hf he
  go_enter Try.func12, Try.ntmps12
  go_wp2_with (first | (go_at_call 32; (with_reducible refine (wput_c ek et el A c _ (Kd.C_below HR.out (by repeat (first | (with_reducible first | exact HB.out | apply below_alloc | apply pw_below_drewN | apply below_drew1) | exact HB.out)))).mono ?_); rintro e w1 ⟨rfl, hb⟩; rw [HP.out]; have n0_ := Aside0.mk (below_step (by repeat (first | (with_reducible first | exact HB.out | apply below_alloc | apply pw_below_drewN | apply below_drew1) | exact HB.out)) hb); clear HB; have HB := n0_; clear n0_; clear q0 q1 hlt; have H1 := Aside0.mk (H.out.below HB.out); have q0 := blk_cell H1.out.blk 0; have q1 := blk_cell H1.out.blk 1; have hlt := blk_lt H1.out.blk; simp only [List.getElem?_toArray, List.getElem?_cons_zero, List.getElem?_cons_succ] at q0 q1; have hl := H1.out.look_ k hk; rw [HF.out] at hl; have hl2 : (Instr.lookup 67 (.map (some mb)) (.int .i64 k) true).run Try.prog w1 = .ok (.tuple #[.pointer none, .bool false]) w1 := hl; clear hl; clear hb) | (go_at_call 33; (with_reducible refine (x_alloc (HA.out.below (by repeat (first | (with_reducible first | exact HB.out | apply below_alloc | apply pw_below_drewN | apply below_drew1) | exact HB.out))) HG.out s).mono ?_); rintro e w2 ⟨rfl, hA, hF⟩; rw [HE.out]; have HA2 := Aside0.mk hA; have F2 := Aside0.mk ((FS.of_below HB.out).trans (FS.of_fr (Fr.trans (Fr.of_below (show Below w1.heap.size w1 _ by repeat (first | (with_reducible first | exact Below.refl _ _ | apply below_alloc | apply pw_below_drewN | apply below_drew1) | exact Below.refl _ _))) hF))); have H2 := Aside0.mk ((H1.out.below (show Below w1.heap.size w1 _ by repeat (first | (with_reducible first | exact Below.refl _ _ | apply below_alloc | apply pw_below_drewN | apply below_drew1) | exact Below.refl _ _))).fr hF); clear q0 q1 hlt hl2 hA hF; have q0 := blk_cell H2.out.blk 0; have q1 := blk_cell H2.out.blk 1; have hlt := blk_lt H2.out.blk; simp only [List.getElem?_toArray, List.getElem?_cons_zero, List.getElem?_cons_succ] at q0 q1))
  go_ret
  have hb2 : Below w2.heap.size w2 (w2.alloc (.cells #[.int .u32 sl, .int .u32 gn] 79)) := below_alloc (Below.refl _ _) _
  exact ⟨rfl, H2.out.below hb2, HA2.out.below hb2, F2.out.trans (FS.of_below hb2)⟩
set_option maxHeartbeats 1000000 in
set_option maxRecDepth 100000 in
theorem s_put_ok {W : World} {gs ga mb N : Nat} {L : List Kt} {cap lim : Int} {bs : List S114} (h : SX W gs ga mb N L) (ha : AX W ga cap lim bs) (hg : Good bs) (k : Int) (hk : I64k k) (ek et : Int) (el : List Int) (A : Option Addr) (c : Nat) (hr : Kd.C (Kd.int .i64) W A el.length el) (s : ByteArray) (hp : putE ek et el = (s, true)) (hf : findK L k = none) (sl : Nat) (gn : Int) (he : allocE lim bs s.size = ((sl : Int), gn, 0)) (hN : N < 1000000) : Calls Try.prog 12 #[.pointer (some ⟨gs, 0, none⟩), .int .i64 k, .agg #[.int .i64 ek, .int .i64 et, .slice A el.length c]] W fun e w' => e = .returned (.int .i64 0) ∧ (∃ b, SX w' gs ga mb (N + 1) (L ++ [⟨k, b, sl, gn, 1⟩])) ∧ AX w' ga cap lim (allocB lim bs s) ∧ FS ga W w' := by
  have HB := Aside0.mk (Below.refl W.heap.size W)
  have q0 := blk_cell h.blk 0
  have q1 := blk_cell h.blk 1
  have hlt := blk_lt h.blk
  simp only [List.getElem?_toArray, List.getElem?_cons_zero, List.getElem?_cons_succ] at q0 q1
  have H := Aside0.mk h
  have HA := Aside0.mk ha
  have HG := Aside0.mk hg
  have HR := Aside0.mk hr
  have HP := Aside0.mk hp
  have HF := Aside0.mk hf
  have HE := Aside0.mk he
  clear h ha hg hr hp hf he
  go_enter Try.func12, Try.ntmps12
  go_upto_region 9 with (first | (go_at_call 32; (with_reducible refine (wput_c ek et el A c _ (Kd.C_below HR.out (by repeat (first | (with_reducible first | exact HB.out | apply below_alloc | apply pw_below_drewN | apply below_drew1) | exact HB.out)))).mono ?_); rintro e w1 ⟨rfl, hb⟩; rw [HP.out]; have n0_ := Aside0.mk (below_step (by repeat (first | (with_reducible first | exact HB.out | apply below_alloc | apply pw_below_drewN | apply below_drew1) | exact HB.out)) hb); clear HB; have HB := n0_; clear n0_; clear q0 q1 hlt; have H1 := Aside0.mk (H.out.below HB.out); have q0 := blk_cell H1.out.blk 0; have q1 := blk_cell H1.out.blk 1; have hlt := blk_lt H1.out.blk; simp only [List.getElem?_toArray, List.getElem?_cons_zero, List.getElem?_cons_succ] at q0 q1; have hl := H1.out.look_ k hk; rw [HF.out] at hl; have hl2 : (Instr.lookup 67 (.map (some mb)) (.int .i64 k) true).run Try.prog w1 = .ok (.tuple #[.pointer none, .bool false]) w1 := hl; clear hl; clear hb) | (go_at_call 33; (with_reducible refine (x_alloc (HA.out.below (by repeat (first | (with_reducible first | exact HB.out | apply below_alloc | apply pw_below_drewN | apply below_drew1) | exact HB.out))) HG.out s).mono ?_); rintro e w2 ⟨rfl, hA, hF⟩; rw [HE.out]; have HA2 := Aside0.mk hA; have F2 := Aside0.mk ((FS.of_below HB.out).trans (FS.of_fr (Fr.trans (Fr.of_below (show Below w1.heap.size w1 _ by repeat (first | (with_reducible first | exact Below.refl _ _ | apply below_alloc | apply pw_below_drewN | apply below_drew1) | exact Below.refl _ _))) hF))); have H2 := Aside0.mk ((H1.out.below (show Below w1.heap.size w1 _ by repeat (first | (with_reducible first | exact Below.refl _ _ | apply below_alloc | apply pw_below_drewN | apply below_drew1) | exact Below.refl _ _))).fr hF); clear q0 q1 hlt hl2 hA hF; have q0 := blk_cell H2.out.blk 0; have q1 := blk_cell H2.out.blk 1; have hlt := blk_lt H2.out.blk; simp only [List.getElem?_toArray, List.getElem?_cons_zero, List.getElem?_cons_succ] at q0 q1))
  have hBn : Below w2.heap.size w2 (w2.alloc (.cells #[.int .u32 sl, .int .u32 gn] 79)) := below_alloc (Below.refl _ _) _
  have HS1 := Aside0.mk (H2.out.below hBn)
  have HA1 := Aside0.mk (HA2.out.below hBn)
  have HF1 := Aside0.mk (F2.out.trans (FS.of_below hBn))
  have HX1 := Aside0.mk (blk_new' (w := w2) (o := .cells #[.int .u32 sl, .int .u32 gn] 79) rfl)
  have HZ1 := Aside0.mk (rfl : (w2.alloc (.cells #[.int .u32 sl, .int .u32 gn] 79)).heap.size = _)
  clear q0 q1 hBn
  generalize w2.heap.size = B1 at *
  generalize w2.alloc (.cells #[.int .u32 sl, .int .u32 gn] 79) = W1 at *
  have q1 := blk_cell HS1.out.blk 1
  have p0 := blk_cell HX1.out 0
  have p1 := blk_cell HX1.out 1
  simp at q1 p0 p1
  refine start_ (n := 9) (S := fun w' => w'.cell? ⟨gs, 1, none⟩ = some (.map (some mb)) ∧ w'.cell? ⟨B1, 0, none⟩ = some (.int .u32 (sl : Int)) ∧ w'.cell? ⟨B1, 1, none⟩ = some (.int .u32 gn)) (ds := [8]) #[false, false, false, false, false, false, false, false, false] (by kernel_rfl) rfl rfl ⟨q1, p0, p1⟩ (fun hHeld => ?_)
  refine pure_ (i := 0) (N := some 41) (v := ?_) (a' := ?_) #[true, false, false, false, false, false, false, false, false] rfl rfl (by kernel_rfl) (fun _ _ _ h => h) (Or.inl ⟨by rfl, ?_⟩) ?_ ?_
  rotate_left
  · intro w'
    go_simp
    with_reducible rfl
  rotate_left
  · simp only [Act.put, List.setIfInBounds_toArray, List.set_cons_zero, List.set_cons_succ, i64_w, i32_w]
    rfl
  refine pure_ (i := 1) (N := some 42) (v := ?_) (a' := ?_) #[true, true, false, false, false, false, false, false, false] rfl rfl (by kernel_rfl) (fun _ _ _ h => h) (Or.inl ⟨by rfl, ?_⟩) ?_ ?_
  rotate_left
  · intro w'
    go_simp
    with_reducible rfl
  rotate_left
  · simp only [Act.put, List.setIfInBounds_toArray, List.set_cons_zero, List.set_cons_succ, i64_w, i32_w]
    rfl
  refine pure_ (i := 2) (N := some 43) (v := ?_) (a' := ?_) #[true, true, true, false, false, false, false, false, false] rfl rfl (by kernel_rfl) (fun _ _ _ h => h) (Or.inl ⟨by rfl, ?_⟩) ?_ ?_
  rotate_left
  · intro w'
    go_simp
    with_reducible rfl
  rotate_left
  · simp only [Act.put, List.setIfInBounds_toArray, List.set_cons_zero, List.set_cons_succ, i64_w, i32_w]
    rfl
  refine pure_ (i := 4) (N := some 45) (v := ?_) (a' := ?_) #[true, true, true, false, true, false, false, false, false] rfl rfl (by kernel_rfl) (fun _ _ _ h => h) (Or.inl ⟨by rfl, ?_⟩) ?_ ?_
  rotate_left
  · intro w'
    go_simp
    with_reducible rfl
  rotate_left
  · simp only [Act.put, List.setIfInBounds_toArray, List.set_cons_zero, List.set_cons_succ, i64_w, i32_w]
    rfl
  refine take_ (i := 3) (N := some 44) (v := ?_) (a' := ?_) #[true, true, true, true, true, false, false, false, false] rfl rfl (by kernel_rfl) (fun _ _ _ h => h) (Or.inl ⟨by rfl, ?_⟩) hHeld ?_ ?_
  rotate_left
  · rintro w' ⟨s0, s1, s2⟩
    go_simp
    with_reducible rfl
  rotate_left
  · simp only [Act.put, List.setIfInBounds_toArray, List.set_cons_zero, List.set_cons_succ, i64_w, i32_w]
    rfl
  refine take_ (i := 5) (N := some 46) (v := ?_) (a' := ?_) #[true, true, true, true, true, true, false, false, false] rfl rfl (by kernel_rfl) (fun _ _ _ h => h) (Or.inl ⟨by rfl, ?_⟩) hHeld ?_ ?_
  rotate_left
  · rintro w' ⟨s0, s1, s2⟩
    go_simp
    with_reducible rfl
  rotate_left
  · simp only [Act.put, List.setIfInBounds_toArray, List.set_cons_zero, List.set_cons_succ, i64_w, i32_w]
    rfl
  refine pure_ (i := 6) (N := some 47) (v := ?_) (a' := ?_) #[true, true, true, true, true, true, true, false, false] rfl rfl (by kernel_rfl) (fun _ _ _ h => h) (Or.inl ⟨by rfl, ?_⟩) ?_ ?_
  rotate_left
  · intro w'
    go_simp
    with_reducible rfl
  rotate_left
  · simp only [Act.put, List.setIfInBounds_toArray, List.set_cons_zero, List.set_cons_succ, i64_w, i32_w]
    rfl
  refine one_ (i := 7) (N := some 48) #[true, true, true, true, true, true, true, true, false] rfl rfl (by kernel_rfl) (by decide) (fun Kc hKc => ?_)
  refine value_ (w1 := ?_) (v := ?_) (by rfl) rfl ?_ ?_
  rotate_left 2
  · go_simp
    constructor
    · rfl
    · rfl
  have HS3 := Aside0.mk (HS1.out.below (show Below W1.heap.size W1 ((W1.alloc (.cells #[.int .u32 (sl : Int), .int .u32 gn, .int .i64 1] 83)).drew) by repeat (first | (with_reducible first | exact Below.refl _ _ | apply below_drew1 | apply below_alloc | apply pw_below_drewN) | exact Below.refl _ _)))
  have HA3 := Aside0.mk (HA1.out.below (show Below W1.heap.size W1 ((W1.alloc (.cells #[.int .u32 (sl : Int), .int .u32 gn, .int .i64 1] 83)).drew) by repeat (first | (with_reducible first | exact Below.refl _ _ | apply below_drew1 | apply below_alloc | apply pw_below_drewN) | exact Below.refl _ _)))
  have HF3 := Aside0.mk (HF1.out.trans (FS.of_below (show Below W1.heap.size W1 ((W1.alloc (.cells #[.int .u32 (sl : Int), .int .u32 gn, .int .i64 1] 83)).drew) by repeat (first | (with_reducible first | exact Below.refl _ _ | apply below_drew1 | apply below_alloc | apply pw_below_drewN) | exact Below.refl _ _))))
  have HX3 := Aside0.mk (blk_below HX1.out (show Below W1.heap.size W1 ((W1.alloc (.cells #[.int .u32 (sl : Int), .int .u32 gn, .int .i64 1] 83)).drew) by repeat (first | (with_reducible first | exact Below.refl _ _ | apply below_drew1 | apply below_alloc | apply pw_below_drewN) | exact Below.refl _ _)))
  have HN3 := Aside0.mk (show ((W1.alloc (.cells #[.int .u32 (sl : Int), .int .u32 gn, .int .i64 1] 83)).drew).heap[W1.heap.size]? = some (.cells #[.int .u32 (sl : Int), .int .u32 gn, .int .i64 1] 83 (0, 0)) from blk_drew (blk_new' rfl))
  generalize (W1.alloc (.cells #[.int .u32 (sl : Int), .int .u32 gn, .int .i64 1] 83)).drew = W3 at *
  have u0 := blk_cell HS3.out.blk 1
  have u1 := blk_cell HX3.out 0
  have u2 := blk_cell HX3.out 1
  simp at u0 u1 u2
  refine hKc.out _ _ ⟨u0, u1, u2⟩ (fun hHeld => ?_)
  clear hKc Kc
  refine norm_ (a' := ?_) ?_ ?_
  rotate_left
  · show Act.put _ (some 48) _ = _
    simp only [Act.put, List.setIfInBounds_toArray, List.set_cons_zero, List.set_cons_succ, i64_w, i32_w]
    rfl
  refine last_ (i := 8) (N := none) #[true, true, true, true, true, true, true, true, true] rfl rfl (by kernel_rfl) (by decide) (fun Kc hKc => ?_)
  obtain ⟨w4, hr, hS4, ht4⟩ := HS3.out.put_ k hk HF.out W1.heap.size sl gn HN3.out (fun x hx e => by have := blk_lt (HS1.out.kept x hx); omega) (by have := blk_lt HS1.out.blk; have := HS1.out.low.1; omega) hN
  have HS4 := Aside0.mk hS4
  have HA4 := Aside0.mk (HA3.out.turned ht4)
  have HF4 := Aside0.mk (HF3.out.trans (FS.turned ht4 HS3.out.low.2.1))
  refine skip_ (w1 := w4) (by rfl) rfl ?_ ?_
  · go_simp
    first | exact hr | (rw [hr]) | (simp [hr]) | go_show
  clear hr hS4 ht4
  refine hKc.out _ _ ?_
  clear hKc Kc
  refine done_ (by kernel_rfl) ?_
  clear q1 p0 p1 u0 u1 u2 hHeld
  go_wp2
  go_ret
  exact ⟨rfl, ⟨_, HS4.out⟩, HA4.out, HF4.out⟩
end Go.Proofs.Ytibcbeibehaeeaa.Hand
