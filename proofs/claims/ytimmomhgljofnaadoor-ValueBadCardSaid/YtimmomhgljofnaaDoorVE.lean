/- Chapter 8: the chapter's examples. -/
import Derived.Test.YtimmomhgljofnaaDoorVD
import Derived.Deep.RegionLaw
import Derived.Deep.DeepCutAuto
import Derived.Deep.CutBlock
set_option linter.unusedVariables false
set_option linter.unusedSimpArgs false
namespace Go.Proofs.YtimmomhgljofnaaDoor.Hand
open Go.Proofs.YtimmomhgljofnaaDoor.PValueBad
open Go.RowKit Go.Proofs.YtimmomhgljofnaaDoorW.PrintWords Go.Proofs.YtimmomhgljofnaaDoorW.PrintLast Go.Proofs.YtimmomhgljofnaaDoorW.PrintMore
theorem C_one {α : Type} {d : Kd α} {W : World} {g t : Nat} {x : α} {cs : List Value} (h : W.heap[g]? = some (.cells cs.toArray t (0, 0))) (hK : d.K W x cs) : d.C W (some ⟨g, 0, none⟩) 1 [x] := by
  refine ⟨rfl, by decide, fun _ => ⟨_, rfl, fun j p hj => ?_⟩⟩
  rcases j with _ | j
  · simp at hj
    subst hj
    refine ⟨cs, d.K_len hK, hK, fun i u hu => ?_⟩
    rw [add_plain, Nat.zero_mul, Nat.zero_add, blk_cell h, List.getElem?_toArray, hu]
  · simp at hj
theorem C_two {α : Type} {d : Kd α} {W : World} {g t : Nat} {x y : α} {cs ds : List Value} (h : W.heap[g]? = some (.cells (cs ++ ds).toArray t (0, 0))) (hK : d.K W x cs) (hL : d.K W y ds) : d.C W (some ⟨g, 0, none⟩) 2 [x, y] := by
  have l1 := d.K_len hK
  have l2 := d.K_len hL
  refine ⟨rfl, by decide, fun _ => ⟨_, rfl, fun j p hj => ?_⟩⟩
  rcases j with _ | _ | j
  · simp at hj
    subst hj
    refine ⟨cs, l1, hK, fun i u hu => ?_⟩
    rw [add_plain, Nat.zero_mul, Nat.zero_add, blk_cell h, List.getElem?_toArray, List.getElem?_append_left (List.getElem?_eq_some_iff.1 hu).1, hu]
  · simp at hj
    subst hj
    refine ⟨ds, l2, hL, fun i u hu => ?_⟩
    rw [add_plain, Nat.zero_add, Nat.one_mul, blk_cell h, List.getElem?_toArray, List.getElem?_append_right (by omega), l1, Nat.add_sub_cancel_left, hu]
  · simp at hj
theorem C_nil_ {α : Type} {d : Kd α} {W : World} : d.C W none 0 [] := ⟨rfl, by decide, fun h => absurd h (by decide)⟩
def exBL : List S55 := [⟨⟨#[97]⟩, [⟨#[120]⟩], [3]⟩, ⟨⟨#[97]⟩, [⟨#[121]⟩], [4]⟩]
def leafE (n : Int) : S24 := ⟨0, ⟨#[]⟩, n, ⟨#[]⟩, ⟨#[]⟩, []⟩
def opE (k : Int) (op : ByteArray) (kids : List S24) : S24 := ⟨k, op, 0, ⟨#[]⟩, ⟨#[]⟩, kids⟩
def exZ : S24 := opE 3 ⟨#[47]⟩ [leafE 1, leafE 0]
def exIs : S24 := opE 3 ⟨#[61, 61]⟩ [exZ, leafE 1]
def exYes : S24 := opE 3 ⟨#[60]⟩ [leafE 0, leafE 1]
def exOr : S24 := opE 3 ⟨#[124, 124]⟩ [exYes, exIs]
def exNot : S24 := opE 2 ⟨#[33]⟩ [exIs]
def noN : ByteArray → Bool := fun _ => false
theorem names_leaf (nm : ByteArray → Bool) (W : World) (n : Int) : NamesE nm W (leafE n) := by
  unfold leafE
  rw [NamesE, NamesL]
  exact ⟨fun h => absurd h (by decide), trivial⟩
theorem names_op {nm : ByteArray → Bool} {W : World} {k : Int} {op : ByteArray} {kids : List S24} (hk : k ≠ 1) (h : NamesL nm W kids) : NamesE nm W (opE k op kids) := by
  unfold opE
  rw [NamesE]
  exact ⟨fun h => absurd h hk, h⟩
theorem names_two {nm : ByteArray → Bool} {W : World} {x y : S24} (hx : NamesE nm W x) (hy : NamesE nm W y) : NamesL nm W [x, y] := by
  rw [NamesL, NamesL, NamesL]
  exact ⟨hx, hy, trivial⟩
theorem names_one {nm : ByteArray → Bool} {W : World} {x : S24} (hx : NamesE nm W x) : NamesL nm W [x] := by
  rw [NamesL, NamesL]
  exact ⟨hx, trivial⟩
theorem in_leaf {n : Int} (h : InI n) : InE (leafE n) := by
  unfold leafE
  rw [InE, InK]
  exact ⟨h, trivial⟩
theorem in_op {k : Int} {op : ByteArray} {kids : List S24} (h : InK kids) : InE (opE k op kids) := by
  unfold opE
  rw [InE]
  exact ⟨by decide, h⟩
theorem in_two {x y : S24} (hx : InE x) (hy : InE y) : InK [x, y] := by
  rw [InK, InK, InK]
  exact ⟨hx, hy, trivial⟩
theorem in_one {x : S24} (hx : InE x) : InK [x] := by
  rw [InK, InK]
  exact ⟨hx, trivial⟩
theorem k_leaf (W : World) (n : Int) : k24.K W (leafE n) [.int .i64 0, .string ⟨#[]⟩, .int .i64 n, .string ⟨#[]⟩, .string ⟨#[]⟩, .slice none 0 0] := k24_mk W (leafE n) (A5 := none) (c5 := 0) (Nat.le_refl _) C_nil_
theorem k_op {W : World} {k : Int} {op : ByteArray} {kids : List S24} {A : Option Addr} {n c : Nat} (hn : kids.length = n) (hc : n ≤ c) (h : Kd.C k24 W A n kids) : k24.K W (opE k op kids) [.int .i64 k, .string op, .int .i64 0, .string ⟨#[]⟩, .string ⟨#[]⟩, .slice A n c] := by
  subst hn
  exact k24_mk W (opE k op kids) hc h
theorem ex_or : evalF noN [] exOr = (1, true) := by decide +kernel
theorem ex_h1 : holdsF noN [] exIs = false := by decide +kernel
theorem ex_h2 : holdsF noN [] exNot = false := by decide +kernel
theorem ex_h3 : holdsF noN [] exOr = true := by decide +kernel
theorem ex_h4 : holdsF noN [] (leafE 1) = false := by decide +kernel
theorem ex_l1 : lookF exBL ⟨#[97]⟩ ⟨#[121]⟩ = (4, true) := by decide +kernel
theorem ex_l2 : lookF exBL ⟨#[97]⟩ ⟨#[120]⟩ = (0, false) := by decide +kernel
theorem inB_nil : InB [] := fun y h => by cases h
end Go.Proofs.YtimmomhgljofnaaDoor.Hand
