/- What came in, opened: an argument's data as a kind of values, in each world that has its blocks. -/
import Derived.Test.YtimmomhgljofnaaDoorGW0
import Derived.Deep.Slices
import Derived.ChangeArms
import Derived.SizedLaws
set_option linter.unusedVariables false
namespace Go.Proofs.YtimmomhgljofnaaDoor.Hand
open Go.RowKit Go.ChangeShapes Go.WideShapes Go.Proofs.YtimmomhgljofnaaDoorW.PrintWords

/-- Every text, every row that is reached is no greater than may be. -/
def Light {H : Type} (P : Program) (t : TypeId) (d : DataW H) : Prop := ∀ n ∈ d.weights P t, n ≤ reachBytes
/-- W' has all blocks of w. -/
def Has (w W' : World) : Prop := ∀ k, k < w.heap.size → W'.heap[k]? = w.heap[k]?
theorem Has.refl (w : World) : Has w w := fun _ _ => rfl
theorem Has.cell {w W' : World} (h : Has w W') {a : Addr} {v : Value} (hc : w.cell? a = some v) : W'.cell? a = some v := by
  have := h a.block (World.block_lt_of_cell? w a hc)
  simpa [World.cell?, this] using hc
theorem Has.of_below {w W' : World} (h : Below w.heap.size w W') : Has w W' := fun k hk => h.block k hk
def Opens (P : Program) (t : TypeId) {α : Type} (d : Kd α) (G : α → Prop) : Prop :=
  ∀ {H : Type} {enc : TypeId × Value → H} {w : World} {base : Nat} {spare : Nat → Bool} {held : Bool} {fuel : Nat} {cs : List Value} {x : DataW H × List MemPlace},
    DataW.trod enc P w base spare held fuel t cs = some x → Light P t x.1 → ∃ y : α, G y ∧ ∀ W', Has w W' → d.K W' y cs
theorem opens_int {P : Program} {t : TypeId} (k : IntKind) (ht : P.underlying t = some (.int k)) : Opens P t (Kd.int k) (fun n => (Lit.int k n).wf = true) := by
  intro H enc w base spare held fuel cs x h _
  obtain ⟨n, rfl, _, hw⟩ := DataW.trod_int ht h
  exact ⟨n, hw, fun _ _ => rfl⟩
theorem opens_bool {P : Program} {t : TypeId} (ht : P.underlying t = some .bool) : Opens P t Kd.bool (fun _ => True) := by
  intro H enc w base spare held fuel cs x h _
  obtain ⟨n, rfl, _⟩ := DataW.trod_bool ht h
  exact ⟨n, trivial, fun _ _ => rfl⟩
def Short (s : ByteArray) : Prop := s.size ≤ 140737488351232
theorem opens_string {P : Program} {t : TypeId} (ht : P.underlying t = some .string) : Opens P t Kd.string Short := by
  intro H enc w base spare held fuel cs x h hw
  obtain ⟨s, rfl, rfl, _⟩ := DataW.trod_string ht h
  refine ⟨s, ?_, fun _ _ => rfl⟩
  have := hw s.data.toList.length (by simp [DataW.weights])
  rw [Array.length_toList] at this
  exact this
theorem weightsAll_mem {H : Type} {P : Program} {e : TypeId} : ∀ {l : List (DataW H)} {d : DataW H}, d ∈ l → ∀ n ∈ d.weights P e, n ∈ DataW.weightsAll P e l
  | x :: r, d, hd, n, hn => by
    unfold DataW.weightsAll
    rcases List.mem_cons.1 hd with rfl | hd
    · exact List.mem_append_left _ hn
    · exact List.mem_append_right _ (weightsAll_mem hd n hn)
def ShortRow (B : Nat) {α : Type} (G : α → Prop) (l : List α) : Prop := l.length * B ≤ 140737488351232 ∧ ∀ x ∈ l, G x
theorem opens_slice {P : Program} {t e : TypeId} (B : Nat) {α : Type} {d : Kd α} {G : α → Prop} (ht : P.underlying t = some (.slice e)) (hB : P.bytesOf e = B) (hsz : P.cellsOf e = d.sz) (he : Opens P e d G) : Opens P t (Kd.slice e d) (ShortRow B G) := by
  intro H enc w base spare held fuel cs x h hw
  rcases Go.Deep.open_slice ht h with ⟨rfl, rfl⟩ | ⟨a, len, cap, m, n, D, Pl, rfl, _, hl, hm, hmm, rfl, hi⟩
  · exact ⟨[], ⟨by simp, by simp⟩, fun W' _ => ⟨none, 0, rfl, Nat.le_refl _, Kd.C_nil d W'⟩⟩
  have hlm : len ≤ m := by rw [hmm]; split <;> omega
  have hlight : ∀ i, i < len → Light P e (D i) := by
    intro i hi' n' hn'
    refine hw n' ?_
    simp only [DataW.weights, ht]
    refine List.mem_cons_of_mem _ (List.mem_append_left _ (weightsAll_mem (d := D i) (by simp; exact ⟨i, hi', rfl⟩) n' hn'))
  have hel : ∀ i, i < len → ∃ p : α × List Value, G p.1 ∧ p.2.length = d.sz ∧ (∀ j u, p.2[j]? = some u → w.cell? (a.add (i * d.sz + j)) = some u) ∧ ∀ W', Has w W' → d.K W' p.1 p.2 := by
    intro i hi'
    obtain ⟨cs', hc, ht'⟩ := hi i (by omega)
    obtain ⟨_, hcl, hcc⟩ := World.cells?_some hc
    obtain ⟨y, hy, hk⟩ := he ht' (hlight i hi')
    refine ⟨(y, cs'), hy, hcl.trans hsz, fun j u hu => ?_, hk⟩
    have hj : j < P.cellsOf e := by rw [← hcl]; exact (List.getElem?_eq_some_iff.1 hu).1
    rw [← hsz, ← Go.Deep.add_add, hcc j hj]
    exact hu
  have hmax : len ≤ 9223372036854775807 := by have : cap ≤ maxLen := hm; unfold maxLen at this; omega
  rcases Nat.eq_zero_or_pos len with rfl | h0
  · exact ⟨[], ⟨by simp, by simp⟩, fun W' _ => ⟨some a, cap, rfl, by simp, rfl, by simp, fun h => absurd h (Nat.lt_irrefl 0)⟩⟩
  obtain ⟨p0, _⟩ := hel 0 h0
  haveI : Inhabited (α × List Value) := ⟨p0⟩
  obtain ⟨f, hf⟩ := Go.Deep.choose_lt hel
  have hlen : ((List.range len).map fun i => (f i).1).length = len := by simp
  refine ⟨(List.range len).map fun i => (f i).1, ⟨?_, ?_⟩, fun W' hW => ⟨some a, cap, by rw [hlen], by rw [hlen]; exact hl, ?_⟩⟩
  · rw [hlen]
    have h1 := hw ((((List.range len).map D).length + ((List.range (m - len)).map fun j => D (len + j)).length) * P.bytesOf e) (by simp only [DataW.weights, ht]; exact List.mem_cons_self)
    rw [hB] at h1
    simp only [List.length_map, List.length_range] at h1
    have h2 : len * B ≤ (len + (m - len)) * B := Nat.mul_le_mul_right _ (by omega)
    have h3 : reachBytes = 140737488351232 := by decide
    omega
  · intro x hx
    obtain ⟨i, hi', rfl⟩ := List.mem_map.1 hx
    exact (hf i (List.mem_range.1 hi')).1
  · rw [hlen]
    refine ⟨hlen, hmax, fun _ => ⟨a, rfl, ?_⟩⟩
    intro j p hp
    rw [List.getElem?_map] at hp
    obtain ⟨i, hi', rfl⟩ := Option.map_eq_some_iff.1 hp
    have hj : j < len := by
      have := (List.getElem?_eq_some_iff.1 hi').1
      simpa using this
    have hij : i = j := by
      rw [List.getElem?_range hj] at hi'
      exact (Option.some.inj hi').symm
    subst hij
    obtain ⟨h1, h2, h3, h4⟩ := hf i hj
    exact ⟨(f i).2, h2, h4 W' hW, fun q u hu => hW.cell (h3 q u hu)⟩
/-! ### Structs -/
def cellsL (P : Program) : List Field → Nat
  | [] => 0
  | f :: r => P.cellsOf f.type + cellsL P r
def OpensL (P : Program) (fs : List Field) (o : Nat) {α : Type} (d : Kd α) (G : α → Prop) : Prop :=
  ∀ {H : Type} {enc : TypeId × Value → H} {w : World} {base : Nat} {spare : Nat → Bool} {held : Bool} {fuel : Nat} {cs : List Value} {xs : List (DataW H × List MemPlace)},
    (∀ (i : Nat) (f : Field), fs[i]? = some f → DataW.trod enc P w base spare held fuel f.type ((cs.drop (f.offset - o)).take (P.cellsOf f.type)) = xs[i]?) → xs.length = fs.length → cs.length = cellsL P fs →
    (∀ n ∈ DataW.weightsEach P (fs.map (·.type)) (xs.map (·.1)), n ≤ reachBytes) → ∃ y : α, G y ∧ ∀ W', Has w W' → d.K W' y cs
theorem opensL_one {P : Program} {f : Field} {o : Nat} {α : Type} {d : Kd α} {G : α → Prop} (ho : f.offset = o) (h : Opens P f.type d G) : OpensL P [f] o d G := by
  intro H enc w base spare held fuel cs xs hf hl hc hw
  obtain ⟨x, rfl⟩ : ∃ x, xs = [x] := by
    match xs, hl with
    | [x], _ => exact ⟨x, rfl⟩
  have h0 := hf 0 f rfl
  simp only [cellsL, Nat.add_zero] at hc
  rw [ho, Nat.sub_self, List.drop_zero, List.take_of_length_le (by omega)] at h0
  refine h h0 (fun n hn => hw n ?_)
  simp only [List.map_cons, List.map_nil, DataW.weightsEach]
  exact List.mem_append_left _ hn
theorem opensL_cons {P : Program} {f : Field} {fs : List Field} {o c : Nat} {α β : Type} {d : Kd α} {d' : Kd β} {G : α → Prop} {G' : β → Prop} (ho : f.offset = o) (hc0 : P.cellsOf f.type = c) (hge : ∀ g ∈ fs, o + c ≤ g.offset)
    (h : Opens P f.type d G) (h' : OpensL P fs (o + c) d' G') : OpensL P (f :: fs) o (Kd.pair d d') (fun x => G x.1 ∧ G' x.2) := by
  intro H enc w base spare held fuel cs xs hf hl hc hw
  obtain ⟨x, r, rfl⟩ : ∃ x r, xs = x :: r := by
    match xs, hl with
    | x :: r, _ => exact ⟨x, r, rfl⟩
  have h0 := hf 0 f rfl
  simp only [cellsL, hc0] at hc
  rw [ho, Nat.sub_self, List.drop_zero, hc0] at h0
  simp only [List.map_cons, DataW.weightsEach] at hw
  obtain ⟨y, hy, hk⟩ := h h0 (fun n hn => hw n (List.mem_append_left _ hn))
  obtain ⟨z, hz, hkz⟩ := h' (enc := enc) (w := w) (base := base) (spare := spare) (held := held) (fuel := fuel) (cs := cs.drop c) (xs := r) (fun i g hg => by
    have h1 := hf (i + 1) g hg
    have h2 := hge g (List.mem_of_getElem? hg)
    rw [List.drop_drop, show c + (g.offset - (o + c)) = g.offset - o from by omega]
    exact h1) (by simpa using hl) (by rw [List.length_drop]; omega) (fun n hn => hw n (List.mem_append_right _ hn))
  refine ⟨(y, z), ⟨hy, hz⟩, fun W' hW => ⟨cs.take c, cs.drop c, (List.take_append_drop c cs).symm, hk W' hW, hkz W' hW⟩⟩
theorem opens_struct {P : Program} {t : TypeId} {fs : Array Field} {α : Type} {d : Kd α} {G : α → Prop} (ht : P.underlying t = some (.struct fs)) (hc : P.cellsOf t = cellsL P fs.toList) (h : OpensL P fs.toList 0 d G) : Opens P t d G := by
  intro H enc w base spare held fuel cs x hx hw
  obtain ⟨xs, n, rfl, rfl, hcl, hl, hf⟩ := DataW.trod_struct ht hx
  refine h (enc := enc) (w := w) (base := base) (spare := spare) (held := held) (fuel := n) (cs := cs) (xs := xs) (fun i f hi => ?_) (by simpa using hl) (hcl.trans hc) (fun m hm => hw m ?_)
  · rw [Nat.sub_zero]
    exact hf i f (by simpa using hi)
  · simp only [DataW.weights, ht]
    exact hm
theorem opens_iso {P : Program} {t : TypeId} {α β : Type} {d : Kd α} {G : α → Prop} (f : β → α) (g : α → β) (hfg : ∀ x, f (g x) = x) (h : Opens P t d G) : Opens P t (Kd.iso d f) (fun y => G (f y)) := by
  intro H enc w base spare held fuel cs x hx hw
  obtain ⟨y, hy, hk⟩ := h hx hw
  exact ⟨g y, by show G (f (g y)); rw [hfg]; exact hy, fun W' hW => by show d.K W' (f (g y)) cs; rw [hfg]; exact hk W' hW⟩
/-- What a row of the law lays for an argument. -/
theorem Opens.arg {P : Program} {t : TypeId} {α : Type} {d : Kd α} {G : α → Prop} (h : Opens P t d G) {H : Type} {enc : TypeId × Value → H} {w : World} {base : Nat} {spare : Nat → Bool} {held : Bool} {v : Value} {x : DataW H} {p : List MemPlace} {ts : List TypeId} {ds : List (DataW H)} {j : Nat}
    (hsz : (DataW.weightsEach P ts ds).all (· ≤ reachBytes) = true) (hts : ts[j]? = some t) (hds : ds[j]? = some x) (hx : DataW.Trod enc P w base spare held t v x p) : ∃ y : α, G y ∧ ∀ W', Has w W' → d.K W' y v.cells.toList := by
  obtain ⟨fuel, hf⟩ := hx
  refine h hf (fun n hn => ?_)
  have := List.all_eq_true.1 hsz n (DataW.weights_mem_each hts hds n hn)
  simpa using this
theorem slice_arg {w : World} {e : Nat} {α : Type} {d : Kd α} {y : List α} {a : Option Addr} {n m : Nat} (h : ∀ W', Has w W' → (Kd.slice e d).K W' y (Value.slice a n m).cells.toList) :
    ∃ A c, Value.slice a n m = .slice A y.length c ∧ y.length ≤ c ∧ ∀ W', Has w W' → d.C W' A y.length y := by
  obtain ⟨A, c, e1, hl, _⟩ := h w (Has.refl w)
  have e2 : Value.slice a n m = .slice A y.length c := List.head_eq_of_cons_eq e1
  refine ⟨A, c, e2, hl, fun W' hW => ?_⟩
  obtain ⟨A', c', e1', _, hC⟩ := h W' hW
  have e3 : Value.slice a n m = .slice A' y.length c' := List.head_eq_of_cons_eq e1'
  rw [e2] at e3
  injection e3 with e4
  rw [e4]
  exact hC
end Go.Proofs.YtimmomhgljofnaaDoor.Hand
