/-
  No cell of these rows narrows 'for every input' (looked for: loops, veiled, ifaces, maps, wideKeys, modest, calm, conditions, laid).
  DERIVED. THE GIVEN ROWS OF THIS SEAT. 5 by the template 'for every input the law returns true; each argument reads behind the call as it read before'; 0 by the template 'total and deterministic' (their statements: YtokfmhgbkladdaaTotals.lean).
  GIVEN WITH THE SEED: the statements are not yours to turn. If you find one false, say at which input.
  Laid BY PROGRAM, IN A SANDBOX (cutbox-rows.mjs): the forced cells as the released guide's own fill.sh prints them over the translation 0b8cdf3b3321bf3b… (all of the seat's roots in one cut). By AI agents, Wed Nov 11 2026. No macro, syntax, notation, axiom, sorry.
-/
import Derived.Test.YtokfmhgbkladdaaChecked
import GoSem.Claim
import GoSem.ClaimJoined
import GoSem.ClaimMapViews
import Derived.JoinedTies
import Derived.KernelRfl
namespace Go.Proofs.Ytokfmhgbkladdaa
/- THE CELL 'sum', in the pinned program and in every row, IS THE sha256 OF THE DUMP (.gsa) THAT YtokfmhgbkladdaaProg.lean LOADS. Nothing in Lean hashes anything: it is a label: what it is worth is what the hold of that sum in a sandbox is worth. -/
noncomputable def Try.pinned : Pinned := { name := "ytokfmhgbkladdaa", sum := "0b8cdf3b3321bf3bc63f228d3aa56f9f20513138303e04df79eb26c55ff4a454", checked := Try.checked }
namespace Rows
def none {H : Type} : Left H := { results := [], args := [] }

/-- 'jettisonlaw01.SizeTells': WHATEVER THE INPUT: true; the input reads as it did. -/
def sizeTellsSpec : ChangeSpec := { name := "sizeTells", fn := fun _ => fun
  | [d1, d2, d3] => { results := [.lit (.bool true)], args := [d1, d2, d3] }
  | _ => none }
def sizeTellsRow : OpenClaim := { program := "ytokfmhgbkladdaa", sum := "0b8cdf3b3321bf3bc63f228d3aa56f9f20513138303e04df79eb26c55ff4a454", func := "jettison/jettisonlaw01.SizeTells", spec := "sizeTells", apart := false }
def SizeTellsSaid : Prop := sizeTellsRow.holds Try.pinned (OpenSpec.ofChange sizeTellsSpec)

/-- ITS FALSE NEIGHBOUR: 'it returns false'. Refute it at one input. -/
def sizeTellsWrong : ChangeSpec := { name := "sizeTells", fn := fun _ => fun
  | [d1, d2, d3] => { results := [.lit (.bool false)], args := [d1, d2, d3] }
  | _ => none }
def SizeTellsWrongFalsely : Prop := sizeTellsRow.holds Try.pinned (OpenSpec.ofChange sizeTellsWrong)

/-- 'jettisonlaw01.SizeRounds': WHATEVER THE INPUT: true; the input reads as it did. -/
def sizeRoundsSpec : ChangeSpec := { name := "sizeRounds", fn := fun _ => fun
  | [d1, d2] => { results := [.lit (.bool true)], args := [d1, d2] }
  | _ => none }
def sizeRoundsRow : OpenClaim := { program := "ytokfmhgbkladdaa", sum := "0b8cdf3b3321bf3bc63f228d3aa56f9f20513138303e04df79eb26c55ff4a454", func := "jettison/jettisonlaw01.SizeRounds", spec := "sizeRounds", apart := false }
def SizeRoundsSaid : Prop := sizeRoundsRow.holds Try.pinned (OpenSpec.ofChange sizeRoundsSpec)

/-- ITS FALSE NEIGHBOUR: 'it returns false'. Refute it at one input. -/
def sizeRoundsWrong : ChangeSpec := { name := "sizeRounds", fn := fun _ => fun
  | [d1, d2] => { results := [.lit (.bool false)], args := [d1, d2] }
  | _ => none }
def SizeRoundsWrongFalsely : Prop := sizeRoundsRow.holds Try.pinned (OpenSpec.ofChange sizeRoundsWrong)

/-- 'jettisonlaw01.SizeSums': WHATEVER THE INPUT: true; the input reads as it did. -/
def sizeSumsSpec : ChangeSpec := { name := "sizeSums", fn := fun _ => fun
  | [d1, d2, d3] => { results := [.lit (.bool true)], args := [d1, d2, d3] }
  | _ => none }
def sizeSumsRow : OpenClaim := { program := "ytokfmhgbkladdaa", sum := "0b8cdf3b3321bf3bc63f228d3aa56f9f20513138303e04df79eb26c55ff4a454", func := "jettison/jettisonlaw01.SizeSums", spec := "sizeSums", apart := false }
def SizeSumsSaid : Prop := sizeSumsRow.holds Try.pinned (OpenSpec.ofChange sizeSumsSpec)

/-- ITS FALSE NEIGHBOUR: 'it returns false'. Refute it at one input. -/
def sizeSumsWrong : ChangeSpec := { name := "sizeSums", fn := fun _ => fun
  | [d1, d2, d3] => { results := [.lit (.bool false)], args := [d1, d2, d3] }
  | _ => none }
def SizeSumsWrongFalsely : Prop := sizeSumsRow.holds Try.pinned (OpenSpec.ofChange sizeSumsWrong)

/-- 'jettisonlaw01.SizeClasses': WHATEVER THE INPUT: true; the input reads as it did. -/
def sizeClassesSpec : ChangeSpec := { name := "sizeClasses", fn := fun _ => fun
  | [d1, d2] => { results := [.lit (.bool true)], args := [d1, d2] }
  | _ => none }
def sizeClassesRow : OpenClaim := { program := "ytokfmhgbkladdaa", sum := "0b8cdf3b3321bf3bc63f228d3aa56f9f20513138303e04df79eb26c55ff4a454", func := "jettison/jettisonlaw01.SizeClasses", spec := "sizeClasses", apart := false }
def SizeClassesSaid : Prop := sizeClassesRow.holds Try.pinned (OpenSpec.ofChange sizeClassesSpec)

/-- ITS FALSE NEIGHBOUR: 'it returns false'. Refute it at one input. -/
def sizeClassesWrong : ChangeSpec := { name := "sizeClasses", fn := fun _ => fun
  | [d1, d2] => { results := [.lit (.bool false)], args := [d1, d2] }
  | _ => none }
def SizeClassesWrongFalsely : Prop := sizeClassesRow.holds Try.pinned (OpenSpec.ofChange sizeClassesWrong)

/-- 'jettisonlaw01.SizeOrder': WHATEVER THE INPUT: true; the input reads as it did. -/
def sizeOrderSpec : ChangeSpec := { name := "sizeOrder", fn := fun _ => fun
  | [d1, d2, d3] => { results := [.lit (.bool true)], args := [d1, d2, d3] }
  | _ => none }
def sizeOrderRow : OpenClaim := { program := "ytokfmhgbkladdaa", sum := "0b8cdf3b3321bf3bc63f228d3aa56f9f20513138303e04df79eb26c55ff4a454", func := "jettison/jettisonlaw01.SizeOrder", spec := "sizeOrder", apart := false }
def SizeOrderSaid : Prop := sizeOrderRow.holds Try.pinned (OpenSpec.ofChange sizeOrderSpec)

/-- ITS FALSE NEIGHBOUR: 'it returns false'. Refute it at one input. -/
def sizeOrderWrong : ChangeSpec := { name := "sizeOrder", fn := fun _ => fun
  | [d1, d2, d3] => { results := [.lit (.bool false)], args := [d1, d2, d3] }
  | _ => none }
def SizeOrderWrongFalsely : Prop := sizeOrderRow.holds Try.pinned (OpenSpec.ofChange sizeOrderWrong)

/- THE SECOND FORM. 'bulk': how many values and letters a reading holds, each counted each time it is reached (what is shared counts as often as it is met; a slice's spare places count too). A statement '..UptoSaid' is the law's where the arguments, and the package variables that the reading takes, are together of bulk at most 1048576: NARROWER than '..Said'. Prove '..Said' where nothing that the law and all that it calls make is longer than what came in: it says more and counts as full. Else prove '..UptoSaid'. A law counts once. -/
mutual
def uptoBulk {H : Type} : DataW H → Nat
  | .lit (.string bytes) => bytes.length + 1
  | .lit _ => 1
  | .nil => 1
  | .ptr d => uptoBulk d + 1
  | .slice elems spare => uptoBulkAll elems + uptoBulkAll spare + 1
  | .agg parts => uptoBulkAll parts + 1
  | .iface _ d => uptoBulk d + 1
  | .map entries => uptoBulkEntries entries + 1
  | .held _ => 1
def uptoBulkAll {H : Type} : List (DataW H) → Nat
  | [] => 0
  | d :: r => uptoBulk d + uptoBulkAll r
def uptoBulkEntries {H : Type} : List (Lit × DataW H) → Nat
  | [] => 0
  | x :: r => uptoBulkEntry x + uptoBulkEntries r
def uptoBulkEntry {H : Type} : Lit × DataW H → Nat
  | (.string bytes, d) => bytes.length + uptoBulk d + 1
  | (_, d) => uptoBulk d + 1
 end
def uptoSmall : (H : Type) → List (DataW H) → Bool := fun _ ds => decide (uptoBulkAll ds ≤ 1048576)
def OpenSpec.upto (s : _root_.Go.ChangeSpec) : _root_.Go.OpenSpec := { _root_.Go.OpenSpec.ofChange s with cond := some uptoSmall }

/-- 'jettisonlaw01.SizeTells', WHERE WHAT IT READS IS OF BULK AT MOST 1048576: true; the input reads as it did. -/
def sizeTellsUptoRow : OpenClaim := { program := "ytokfmhgbkladdaa", sum := "0b8cdf3b3321bf3bc63f228d3aa56f9f20513138303e04df79eb26c55ff4a454", func := "jettison/jettisonlaw01.SizeTells", spec := "sizeTells", apart := false, narrowed := true }
def SizeTellsUptoSaid : Prop := sizeTellsUptoRow.holds Try.pinned (OpenSpec.upto sizeTellsSpec)

/-- 'jettisonlaw01.SizeRounds', WHERE WHAT IT READS IS OF BULK AT MOST 1048576: true; the input reads as it did. -/
def sizeRoundsUptoRow : OpenClaim := { program := "ytokfmhgbkladdaa", sum := "0b8cdf3b3321bf3bc63f228d3aa56f9f20513138303e04df79eb26c55ff4a454", func := "jettison/jettisonlaw01.SizeRounds", spec := "sizeRounds", apart := false, narrowed := true }
def SizeRoundsUptoSaid : Prop := sizeRoundsUptoRow.holds Try.pinned (OpenSpec.upto sizeRoundsSpec)

/-- 'jettisonlaw01.SizeSums', WHERE WHAT IT READS IS OF BULK AT MOST 1048576: true; the input reads as it did. -/
def sizeSumsUptoRow : OpenClaim := { program := "ytokfmhgbkladdaa", sum := "0b8cdf3b3321bf3bc63f228d3aa56f9f20513138303e04df79eb26c55ff4a454", func := "jettison/jettisonlaw01.SizeSums", spec := "sizeSums", apart := false, narrowed := true }
def SizeSumsUptoSaid : Prop := sizeSumsUptoRow.holds Try.pinned (OpenSpec.upto sizeSumsSpec)

/-- 'jettisonlaw01.SizeClasses', WHERE WHAT IT READS IS OF BULK AT MOST 1048576: true; the input reads as it did. -/
def sizeClassesUptoRow : OpenClaim := { program := "ytokfmhgbkladdaa", sum := "0b8cdf3b3321bf3bc63f228d3aa56f9f20513138303e04df79eb26c55ff4a454", func := "jettison/jettisonlaw01.SizeClasses", spec := "sizeClasses", apart := false, narrowed := true }
def SizeClassesUptoSaid : Prop := sizeClassesUptoRow.holds Try.pinned (OpenSpec.upto sizeClassesSpec)

/-- 'jettisonlaw01.SizeOrder', WHERE WHAT IT READS IS OF BULK AT MOST 1048576: true; the input reads as it did. -/
def sizeOrderUptoRow : OpenClaim := { program := "ytokfmhgbkladdaa", sum := "0b8cdf3b3321bf3bc63f228d3aa56f9f20513138303e04df79eb26c55ff4a454", func := "jettison/jettisonlaw01.SizeOrder", spec := "sizeOrder", apart := false, narrowed := true }
def SizeOrderUptoSaid : Prop := sizeOrderUptoRow.holds Try.pinned (OpenSpec.upto sizeOrderSpec)

end Rows
end Go.Proofs.Ytokfmhgbkladdaa
