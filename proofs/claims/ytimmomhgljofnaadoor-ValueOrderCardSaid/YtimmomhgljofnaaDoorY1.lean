/- Chapter 8: ValueOrder, walked. -/
import Derived.Test.YtimmomhgljofnaaDoorVG
import Derived.Deep.RegionLaw
import Derived.Deep.DeepCutAuto
import Derived.Deep.CutBlock
import Derived.Test.YtimmomhgljofnaaDoorY0
set_option linter.unusedVariables false
set_option linter.unusedSimpArgs false
namespace Go.Proofs.YtimmomhgljofnaaDoor.Hand
open Go.Proofs.YtimmomhgljofnaaDoor.PValueBad
open Go.RowKit Go.Proofs.YtimmomhgljofnaaDoorW.PrintWords Go.Proofs.YtimmomhgljofnaaDoorW.PrintLast Go.Proofs.YtimmomhgljofnaaDoorW.PrintMore
theorem named_of {W : World} (hT : Tabs W) (s : ByteArray) (hs : s.size ≤ 9223372036854775807) : Named W s (nameB s) := fun W' hb => isname_c s (hT.below hb) hs _ rfl
def OPS6 : List ByteArray := [⟨#[60]⟩, ⟨#[61, 61]⟩, ⟨#[62]⟩, ⟨#[60, 61]⟩, ⟨#[33, 61]⟩, ⟨#[62, 61]⟩]
def cmpB (i : Nat) (a b : Int) : Bool := match i with
  | 0 => decide (a < b)
  | 1 => decide (a = b)
  | 2 => decide (b < a)
  | 3 => decide (a ≤ b)
  | 4 => a != b
  | _ => decide (b ≤ a)
def refA (f : ByteArray) : S24 := ⟨1, ⟨#[]⟩, 0, ⟨#[97]⟩, f, []⟩
def ordE (op : ByteArray) : S24 := opE 3 op [refA ⟨#[120]⟩, refA ⟨#[121]⟩]
def bindO (a b : Int) : List S55 := [⟨⟨#[97]⟩, [⟨#[120]⟩, ⟨#[121]⟩], [a, b]⟩]
theorem lookX (a b : Int) : lookF (bindO a b) ⟨#[97]⟩ ⟨#[120]⟩ = (a, true) := by kernel_rfl
theorem lookY (a b : Int) : lookF (bindO a b) ⟨#[97]⟩ ⟨#[121]⟩ = (b, true) := by kernel_rfl
theorem nA : nameB ⟨#[97]⟩ = true := by decide +kernel
theorem nX : nameB ⟨#[120]⟩ = true := by decide +kernel
theorem nY : nameB ⟨#[121]⟩ = true := by decide +kernel
theorem ord_reckon (op : ByteArray) (a b : Int) : reckonE (bindO a b) (ordE op) = arith op a b := by
  show reckonE (bindO a b) ⟨3, op, 0, ⟨#[]⟩, ⟨#[]⟩, [refA ⟨#[120]⟩, refA ⟨#[121]⟩]⟩ = _
  rw [reckonE, if_neg (by decide), if_neg (by decide), reckonL, reckonL, reckonL]
  unfold refA
  rw [reckonE, reckonE, if_neg (by decide), if_pos rfl, if_neg (by decide), if_pos rfl, lookX, lookY]
  rfl
theorem ord_type : ∀ (i : Nat) (op : ByteArray), OPS6[i]? = some op → typeE nameB (ordE op) = 2 := by
  intro i op h
  rcases i with _ | _ | _ | _ | _ | _ | i
  all_goals first | (simp [OPS6] at h; done) | (have e := Option.some.inj h; subst e; decide +kernel)
theorem ord_arith : ∀ (i : Nat) (op : ByteArray) (a b : Int), OPS6[i]? = some op → arith op a b = .tr (cmpB i a b) := by
  intro i op a b h
  rcases i with _ | _ | _ | _ | _ | _ | i
  all_goals first | (simp [OPS6] at h; done) | (have e := Option.some.inj h; subst e; unfold arith; (repeat (first | rw [if_pos (by decide +kernel)] | rw [if_neg (by decide +kernel)])); rfl)
theorem ord_holds (i : Nat) (op : ByteArray) (a b : Int) (h : OPS6[i]? = some op) : holdsF nameB (bindO a b) (ordE op) = cmpB i a b := by
  unfold holdsF evalF
  rw [ord_type i op h, if_neg (by decide), ord_reckon, ord_arith i op a b h]
  cases cmpB i a b <;> rfl
theorem names_ref {W : World} (f : ByteArray) (h1 : Named W ⟨#[97]⟩ (nameB ⟨#[97]⟩)) (h2 : Named W f (nameB f)) : NamesE nameB W (refA f) := by
  unfold refA
  rw [NamesE, NamesL]
  exact ⟨fun _ => ⟨h1, h2⟩, trivial⟩
theorem in_ref (f : ByteArray) : InE (refA f) := by
  unfold refA
  rw [InE, InK]
  exact ⟨by unfold InI; omega, trivial⟩
theorem ho_ord {W : World} {A : Option Addr} {BA : Option Addr} {a b : Int} (hT : Tabs W) (ha : InI a) (hb : InI b) (i : Nat) (op : ByteArray) (hi : OPS6[i]? = some op) (h : Kd.C k24 W A 2 [refA ⟨#[120]⟩, refA ⟨#[121]⟩]) (hB : Kd.C k55 W BA 1 (bindO a b)) :
    Calls Tryd.prog 29 #[.agg #[.int .i64 3, .string op, .int .i64 0, .string ⟨#[]⟩, .string ⟨#[]⟩, .slice A 2 2], .slice BA 1 1] W fun e w' => e = .returned (.bool (cmpB i a b)) ∧ Below W.heap.size W w' :=
  holds_c nameB (B := bindO a b) (fun y hy n hn => by
    obtain rfl : y = _ := by simpa [bindO] using hy
    rcases (by simpa using hn : n = a ∨ n = b) with rfl | rfl
    · exact ha
    · exact hb) (ordE op) (names_op (by decide) (names_two (names_ref _ (named_of hT _ (by decide)) (named_of hT _ (by decide))) (names_ref _ (named_of hT _ (by decide)) (named_of hT _ (by decide))))) (in_op (in_two (in_ref _) (in_ref _))) h (Nat.le_refl 2) hB _ (ord_holds i op a b hi)
theorem bool_at {W : World} {ad : Addr} {n : Nat} {L : List Bool} (h : Kd.C Kd.bool W (some ad) n L) (k : Nat) (x : Bool) (hx : L[k]? = some x) : W.cell? (ad.add k) = some (.bool x) := by
  obtain ⟨hk, _⟩ := List.getElem?_eq_some_iff.1 hx
  obtain ⟨ad', e, h1⟩ := Kd.at_bool h (k : Int) (by omega) (by have := h.1; omega)
  have e' := Option.some.inj e
  subst e'
  rw [show rdOf false L (k : Int) = x from by unfold rdOf; rw [Int.toNat_natCast, List.getD_eq_getElem?_getD, hx]; rfl, Int.toNat_natCast] at h1
  exact h1
theorem ops_cell (i : Nat) (op : ByteArray) (h : OPS6[i]? = some op) : (#[.string ⟨#[60]⟩, .string ⟨#[61, 61]⟩, .string ⟨#[62]⟩, .string ⟨#[60, 61]⟩, .string ⟨#[33, 61]⟩, .string ⟨#[62, 61]⟩] : Array Value)[i]? = some (.string op) := by
  rcases i with _ | _ | _ | _ | _ | _ | i
  all_goals first | (simp [OPS6] at h; done) | (have e := Option.some.inj h; subst e; rfl)
theorem cmps_snoc (i : Nat) (a b : Int) : (List.range i).map (fun j => cmpB j a b) ++ [cmpB i a b] = (List.range (i + 1)).map (fun j => cmpB j a b) := by
  rw [List.range_succ, List.map_append]
  rfl
theorem infoB : (Tryd.prog.info? 4).map (fun i => (i.zero, i.size, i.bytes)) = some (some (.bool false), 1, 1) := by kernel_rfl
end Go.Proofs.YtimmomhgljofnaaDoor.Hand
