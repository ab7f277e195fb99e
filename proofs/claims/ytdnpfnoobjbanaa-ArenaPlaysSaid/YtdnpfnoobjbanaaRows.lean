/-
  No cell of these rows narrows 'for every input' (looked for: loops, veiled, ifaces, maps, wideKeys, modest, calm, conditions, laid).
  DERIVED. THE GIVEN ROWS OF THIS SEAT. 7 by the template 'for every input the law returns true; each argument reads behind the call as it read before'; 0 by the template 'total and deterministic' (their statements: YtdnpfnoobjbanaaTotals.lean).
  GIVEN WITH THE SEED: the statements are not yours to turn. If you find one false, say at which input.
  Laid BY PROGRAM, IN A SANDBOX (cutbox-rows.mjs): the forced cells as the released guide's own fill.sh prints them over the translation a862e8d7418dd973… (all of the seat's roots in one cut). By AI agents, Wed Nov 11 2026. No macro, syntax, notation, axiom, sorry.
-/
import Derived.Test.YtdnpfnoobjbanaaChecked
import GoSem.Claim
import GoSem.ClaimJoined
import GoSem.ClaimMapViews
import Derived.JoinedTies
import Derived.KernelRfl
namespace Go.Proofs.Ytdnpfnoobjbanaa
/- THE CELL 'sum', in the pinned program and in every row, IS THE sha256 OF THE DUMP (.gsa) THAT YtdnpfnoobjbanaaProg.lean LOADS. Nothing in Lean hashes anything: it is a label: what it is worth is what the hold of that sum in a sandbox is worth. -/
noncomputable def Try.pinned : Pinned := { name := "ytdnpfnoobjbanaa", sum := "a862e8d7418dd9734492f3367b42b055f2aa935f78a6d4e2b7de39e729e9e77e", checked := Try.checked }
namespace Rows
def none {H : Type} : Left H := { results := [], args := [] }

/-- 'jettisonlaw03.ArenaStale': WHATEVER THE INPUT: true; the input reads as it did. -/
def arenaStaleSpec : ChangeSpec := { name := "arenaStale", fn := fun _ => fun
  | [d1, d2] => { results := [.lit (.bool true)], args := [d1, d2] }
  | _ => none }
def arenaStaleRow : OpenClaim := { program := "ytdnpfnoobjbanaa", sum := "a862e8d7418dd9734492f3367b42b055f2aa935f78a6d4e2b7de39e729e9e77e", func := "jettison/jettisonlaw03.ArenaStale", spec := "arenaStale", inPlace := ["slices.overlaps[int]"], apart := false }
def ArenaStaleSaid : Prop := arenaStaleRow.holds Try.pinned (OpenSpec.ofChange arenaStaleSpec)

/-- ITS FALSE NEIGHBOUR: 'it returns false'. Refute it at one input. -/
def arenaStaleWrong : ChangeSpec := { name := "arenaStale", fn := fun _ => fun
  | [d1, d2] => { results := [.lit (.bool false)], args := [d1, d2] }
  | _ => none }
def ArenaStaleWrongFalsely : Prop := arenaStaleRow.holds Try.pinned (OpenSpec.ofChange arenaStaleWrong)

/-- 'jettisonlaw03.ArenaSlots': WHATEVER THE INPUT: true; the input reads as it did. -/
def arenaSlotsSpec : ChangeSpec := { name := "arenaSlots", fn := fun _ => fun
  | [d] => { results := [.lit (.bool true)], args := [d] }
  | _ => none }
def arenaSlotsRow : OpenClaim := { program := "ytdnpfnoobjbanaa", sum := "a862e8d7418dd9734492f3367b42b055f2aa935f78a6d4e2b7de39e729e9e77e", func := "jettison/jettisonlaw03.ArenaSlots", spec := "arenaSlots", inPlace := ["slices.overlaps[int]"], apart := false }
def ArenaSlotsSaid : Prop := arenaSlotsRow.holds Try.pinned (OpenSpec.ofChange arenaSlotsSpec)

/-- ITS FALSE NEIGHBOUR: 'it returns false'. Refute it at one input. -/
def arenaSlotsWrong : ChangeSpec := { name := "arenaSlots", fn := fun _ => fun
  | [d] => { results := [.lit (.bool false)], args := [d] }
  | _ => none }
def ArenaSlotsWrongFalsely : Prop := arenaSlotsRow.holds Try.pinned (OpenSpec.ofChange arenaSlotsWrong)

/-- 'jettisonlaw03.ArenaPuts': WHATEVER THE INPUT: true; the input reads as it did. -/
def arenaPutsSpec : ChangeSpec := { name := "arenaPuts", fn := fun _ => fun
  | [d1, d2, d3] => { results := [.lit (.bool true)], args := [d1, d2, d3] }
  | _ => none }
def arenaPutsRow : OpenClaim := { program := "ytdnpfnoobjbanaa", sum := "a862e8d7418dd9734492f3367b42b055f2aa935f78a6d4e2b7de39e729e9e77e", func := "jettison/jettisonlaw03.ArenaPuts", spec := "arenaPuts", inPlace := ["slices.overlaps[int]"], apart := false }
def ArenaPutsSaid : Prop := arenaPutsRow.holds Try.pinned (OpenSpec.ofChange arenaPutsSpec)

/-- ITS FALSE NEIGHBOUR: 'it returns false'. Refute it at one input. -/
def arenaPutsWrong : ChangeSpec := { name := "arenaPuts", fn := fun _ => fun
  | [d1, d2, d3] => { results := [.lit (.bool false)], args := [d1, d2, d3] }
  | _ => none }
def ArenaPutsWrongFalsely : Prop := arenaPutsRow.holds Try.pinned (OpenSpec.ofChange arenaPutsWrong)

/-- 'jettisonlaw03.ArenaLeast': WHATEVER THE INPUT: true; the input reads as it did. -/
def arenaLeastSpec : ChangeSpec := { name := "arenaLeast", fn := fun _ => fun
  | [d1, d2] => { results := [.lit (.bool true)], args := [d1, d2] }
  | _ => none }
def arenaLeastRow : OpenClaim := { program := "ytdnpfnoobjbanaa", sum := "a862e8d7418dd9734492f3367b42b055f2aa935f78a6d4e2b7de39e729e9e77e", func := "jettison/jettisonlaw03.ArenaLeast", spec := "arenaLeast", inPlace := ["slices.overlaps[int]"], apart := false }
def ArenaLeastSaid : Prop := arenaLeastRow.holds Try.pinned (OpenSpec.ofChange arenaLeastSpec)

/-- ITS FALSE NEIGHBOUR: 'it returns false'. Refute it at one input. -/
def arenaLeastWrong : ChangeSpec := { name := "arenaLeast", fn := fun _ => fun
  | [d1, d2] => { results := [.lit (.bool false)], args := [d1, d2] }
  | _ => none }
def ArenaLeastWrongFalsely : Prop := arenaLeastRow.holds Try.pinned (OpenSpec.ofChange arenaLeastWrong)

/-- 'jettisonlaw03.ArenaPlays': WHATEVER THE INPUT: true; the input reads as it did. -/
def arenaPlaysSpec : ChangeSpec := { name := "arenaPlays", fn := fun _ => fun
  | [d1, d2, d3] => { results := [.lit (.bool true)], args := [d1, d2, d3] }
  | _ => none }
def arenaPlaysRow : OpenClaim := { program := "ytdnpfnoobjbanaa", sum := "a862e8d7418dd9734492f3367b42b055f2aa935f78a6d4e2b7de39e729e9e77e", func := "jettison/jettisonlaw03.ArenaPlays", spec := "arenaPlays", inPlace := ["slices.overlaps[int]"], apart := false }
def ArenaPlaysSaid : Prop := arenaPlaysRow.holds Try.pinned (OpenSpec.ofChange arenaPlaysSpec)

/-- ITS FALSE NEIGHBOUR: 'it returns false'. Refute it at one input. -/
def arenaPlaysWrong : ChangeSpec := { name := "arenaPlays", fn := fun _ => fun
  | [d1, d2, d3] => { results := [.lit (.bool false)], args := [d1, d2, d3] }
  | _ => none }
def ArenaPlaysWrongFalsely : Prop := arenaPlaysRow.holds Try.pinned (OpenSpec.ofChange arenaPlaysWrong)

/-- 'jettisonlaw03.ArenaCharges': WHATEVER THE INPUT: true; the input reads as it did. -/
def arenaChargesSpec : ChangeSpec := { name := "arenaCharges", fn := fun _ => fun
  | [d1, d2, d3] => { results := [.lit (.bool true)], args := [d1, d2, d3] }
  | _ => none }
def arenaChargesRow : OpenClaim := { program := "ytdnpfnoobjbanaa", sum := "a862e8d7418dd9734492f3367b42b055f2aa935f78a6d4e2b7de39e729e9e77e", func := "jettison/jettisonlaw03.ArenaCharges", spec := "arenaCharges", inPlace := ["slices.overlaps[int]"], apart := false }
def ArenaChargesSaid : Prop := arenaChargesRow.holds Try.pinned (OpenSpec.ofChange arenaChargesSpec)

/-- ITS FALSE NEIGHBOUR: 'it returns false'. Refute it at one input. -/
def arenaChargesWrong : ChangeSpec := { name := "arenaCharges", fn := fun _ => fun
  | [d1, d2, d3] => { results := [.lit (.bool false)], args := [d1, d2, d3] }
  | _ => none }
def ArenaChargesWrongFalsely : Prop := arenaChargesRow.holds Try.pinned (OpenSpec.ofChange arenaChargesWrong)

/-- 'jettisonlaw03.ArenaLimits': WHATEVER THE INPUT: true; the input reads as it did. -/
def arenaLimitsSpec : ChangeSpec := { name := "arenaLimits", fn := fun _ => fun
  | [d1, d2, d3, d4] => { results := [.lit (.bool true)], args := [d1, d2, d3, d4] }
  | _ => none }
def arenaLimitsRow : OpenClaim := { program := "ytdnpfnoobjbanaa", sum := "a862e8d7418dd9734492f3367b42b055f2aa935f78a6d4e2b7de39e729e9e77e", func := "jettison/jettisonlaw03.ArenaLimits", spec := "arenaLimits", inPlace := ["slices.overlaps[int]"], apart := false }
def ArenaLimitsSaid : Prop := arenaLimitsRow.holds Try.pinned (OpenSpec.ofChange arenaLimitsSpec)

/-- ITS FALSE NEIGHBOUR: 'it returns false'. Refute it at one input. -/
def arenaLimitsWrong : ChangeSpec := { name := "arenaLimits", fn := fun _ => fun
  | [d1, d2, d3, d4] => { results := [.lit (.bool false)], args := [d1, d2, d3, d4] }
  | _ => none }
def ArenaLimitsWrongFalsely : Prop := arenaLimitsRow.holds Try.pinned (OpenSpec.ofChange arenaLimitsWrong)

/- THE SECOND FORM. 'bulk': how many values and letters a reading holds, each counted each time it is reached (what is shared counts as often as it is met; a slice's spare places count too). A statement '..UptoSaid' is the law's where the arguments, and the package variables that the reading takes, are together of bulk at most 1048576: NARROWER than '..Said'. Prove '..Said' where nothing that the law and all that it calls make is longer than what came in: it says more and counts as full. Else prove '..UptoSaid'. A law counts once. -/
mutual
def uptoBulk {H : Type} : DataW H → Nat
  | .lit (.string bytes) => bytes.length + 1
  | .lit _ => 1
  | .nil => 1
  | .ptr d => uptoBulk d + 1
  | .slice elems spare => uptoBulkAll elems + uptoBulkAll spare + 1
  | .agg parts => uptoBulkAll parts + 1
  | .iface _ d => uptoBulk d + 1
  | .map entries => uptoBulkEntries entries + 1
  | .held _ => 1
def uptoBulkAll {H : Type} : List (DataW H) → Nat
  | [] => 0
  | d :: r => uptoBulk d + uptoBulkAll r
def uptoBulkEntries {H : Type} : List (Lit × DataW H) → Nat
  | [] => 0
  | x :: r => uptoBulkEntry x + uptoBulkEntries r
def uptoBulkEntry {H : Type} : Lit × DataW H → Nat
  | (.string bytes, d) => bytes.length + uptoBulk d + 1
  | (_, d) => uptoBulk d + 1
 end
def uptoSmall : (H : Type) → List (DataW H) → Bool := fun _ ds => decide (uptoBulkAll ds ≤ 1048576)
def OpenSpec.upto (s : _root_.Go.ChangeSpec) : _root_.Go.OpenSpec := { _root_.Go.OpenSpec.ofChange s with cond := some uptoSmall }

/-- 'jettisonlaw03.ArenaStale', WHERE WHAT IT READS IS OF BULK AT MOST 1048576: true; the input reads as it did. -/
def arenaStaleUptoRow : OpenClaim := { program := "ytdnpfnoobjbanaa", sum := "a862e8d7418dd9734492f3367b42b055f2aa935f78a6d4e2b7de39e729e9e77e", func := "jettison/jettisonlaw03.ArenaStale", spec := "arenaStale", inPlace := ["slices.overlaps[int]"], apart := false, narrowed := true }
def ArenaStaleUptoSaid : Prop := arenaStaleUptoRow.holds Try.pinned (OpenSpec.upto arenaStaleSpec)

/-- 'jettisonlaw03.ArenaSlots', WHERE WHAT IT READS IS OF BULK AT MOST 1048576: true; the input reads as it did. -/
def arenaSlotsUptoRow : OpenClaim := { program := "ytdnpfnoobjbanaa", sum := "a862e8d7418dd9734492f3367b42b055f2aa935f78a6d4e2b7de39e729e9e77e", func := "jettison/jettisonlaw03.ArenaSlots", spec := "arenaSlots", inPlace := ["slices.overlaps[int]"], apart := false, narrowed := true }
def ArenaSlotsUptoSaid : Prop := arenaSlotsUptoRow.holds Try.pinned (OpenSpec.upto arenaSlotsSpec)

/-- 'jettisonlaw03.ArenaPuts', WHERE WHAT IT READS IS OF BULK AT MOST 1048576: true; the input reads as it did. -/
def arenaPutsUptoRow : OpenClaim := { program := "ytdnpfnoobjbanaa", sum := "a862e8d7418dd9734492f3367b42b055f2aa935f78a6d4e2b7de39e729e9e77e", func := "jettison/jettisonlaw03.ArenaPuts", spec := "arenaPuts", inPlace := ["slices.overlaps[int]"], apart := false, narrowed := true }
def ArenaPutsUptoSaid : Prop := arenaPutsUptoRow.holds Try.pinned (OpenSpec.upto arenaPutsSpec)

/-- 'jettisonlaw03.ArenaLeast', WHERE WHAT IT READS IS OF BULK AT MOST 1048576: true; the input reads as it did. -/
def arenaLeastUptoRow : OpenClaim := { program := "ytdnpfnoobjbanaa", sum := "a862e8d7418dd9734492f3367b42b055f2aa935f78a6d4e2b7de39e729e9e77e", func := "jettison/jettisonlaw03.ArenaLeast", spec := "arenaLeast", inPlace := ["slices.overlaps[int]"], apart := false, narrowed := true }
def ArenaLeastUptoSaid : Prop := arenaLeastUptoRow.holds Try.pinned (OpenSpec.upto arenaLeastSpec)

/-- 'jettisonlaw03.ArenaPlays', WHERE WHAT IT READS IS OF BULK AT MOST 1048576: true; the input reads as it did. -/
def arenaPlaysUptoRow : OpenClaim := { program := "ytdnpfnoobjbanaa", sum := "a862e8d7418dd9734492f3367b42b055f2aa935f78a6d4e2b7de39e729e9e77e", func := "jettison/jettisonlaw03.ArenaPlays", spec := "arenaPlays", inPlace := ["slices.overlaps[int]"], apart := false, narrowed := true }
def ArenaPlaysUptoSaid : Prop := arenaPlaysUptoRow.holds Try.pinned (OpenSpec.upto arenaPlaysSpec)

/-- 'jettisonlaw03.ArenaCharges', WHERE WHAT IT READS IS OF BULK AT MOST 1048576: true; the input reads as it did. -/
def arenaChargesUptoRow : OpenClaim := { program := "ytdnpfnoobjbanaa", sum := "a862e8d7418dd9734492f3367b42b055f2aa935f78a6d4e2b7de39e729e9e77e", func := "jettison/jettisonlaw03.ArenaCharges", spec := "arenaCharges", inPlace := ["slices.overlaps[int]"], apart := false, narrowed := true }
def ArenaChargesUptoSaid : Prop := arenaChargesUptoRow.holds Try.pinned (OpenSpec.upto arenaChargesSpec)

/-- 'jettisonlaw03.ArenaLimits', WHERE WHAT IT READS IS OF BULK AT MOST 1048576: true; the input reads as it did. -/
def arenaLimitsUptoRow : OpenClaim := { program := "ytdnpfnoobjbanaa", sum := "a862e8d7418dd9734492f3367b42b055f2aa935f78a6d4e2b7de39e729e9e77e", func := "jettison/jettisonlaw03.ArenaLimits", spec := "arenaLimits", inPlace := ["slices.overlaps[int]"], apart := false, narrowed := true }
def ArenaLimitsUptoSaid : Prop := arenaLimitsUptoRow.holds Try.pinned (OpenSpec.upto arenaLimitsSpec)

end Rows
end Go.Proofs.Ytdnpfnoobjbanaa
