/-
  DERIVED. GIVEN WITH THE SEED: THE CARDS: each row of YtimmomhgljofnaaDoorRows.lean that lists a variable, with what it lists TIED to the program's text (the seventh form; the later family's looks); each row that meets fmt, with fmt's text TOLD by the authors' own Lean function (tested against real Go, not proved from fmt's source: count such statements apart). THE CARD IS WHAT COUNTS. Prove the row's statement (the work); the ties are given (YtimmomhgljofnaaDoorTie.lean); close each card by the builder's one call (the guide's Derived/Test/ToyasCard.lean, 'card_holds'). Laid BY PROGRAM, IN A SANDBOX (cutbox-door.mjs). By AI agents, Wed Nov 11 2026. No macro, syntax, notation, axiom, sorry.
-/
import Derived.Test.YtimmomhgljofnaaDoorRows
import GoSem.ClaimSeven
namespace Go.Proofs.YtimmomhgljofnaaDoor
namespace Rows

/-- THE TIED CARD OF 'jettisonlaw08.ValueTells'. -/
def valueTellsCard : Claim7 := { stood := { row := valueTellsRow, standIns := [], harness := (true, "4392a59108e2d4f3cd07ec32d1b40c2dd28a3448763f7cae226d243f5a39d69f"), looks := true }, kinds := [], alts := [], laidByText := true, laidKinds := [.data, .pinned], laidTests := true, laidLooks := .later }
def ValueTellsCardSaid : Prop := Claim7.holds Tryd.pinned (.plain (OpenSpec.ofChange valueTellsSpec)) valueTellsCard

/-- THE TIED CARD OF 'jettisonlaw08.ValueSums'. -/
def valueSumsCard : Claim7 := { stood := { row := valueSumsRow, standIns := [], harness := (true, "4392a59108e2d4f3cd07ec32d1b40c2dd28a3448763f7cae226d243f5a39d69f"), looks := true }, kinds := [], alts := [], laidByText := true, laidKinds := [.data, .pinned], laidTests := true, laidLooks := .later }
def ValueSumsCardSaid : Prop := Claim7.holds Tryd.pinned (.plain (OpenSpec.ofChange valueSumsSpec)) valueSumsCard

/-- THE TIED CARD OF 'jettisonlaw08.ValueProducts'. -/
def valueProductsCard : Claim7 := { stood := { row := valueProductsRow, standIns := [], harness := (true, "4392a59108e2d4f3cd07ec32d1b40c2dd28a3448763f7cae226d243f5a39d69f"), looks := true }, kinds := [], alts := [], laidByText := true, laidKinds := [.data, .pinned], laidTests := true, laidLooks := .later }
def ValueProductsCardSaid : Prop := Claim7.holds Tryd.pinned (.plain (OpenSpec.ofChange valueProductsSpec)) valueProductsCard

/-- THE TIED CARD OF 'jettisonlaw08.ValueBad'. -/
def valueBadCard : Claim7 := { stood := { row := valueBadRow, standIns := [], harness := (true, "4392a59108e2d4f3cd07ec32d1b40c2dd28a3448763f7cae226d243f5a39d69f"), looks := true }, kinds := [], alts := [], laidByText := true, laidKinds := [.data, .pinned], laidTests := true, laidLooks := .later }
def ValueBadCardSaid : Prop := Claim7.holds Tryd.pinned (.plain (OpenSpec.ofChange valueBadSpec)) valueBadCard

/-- THE TIED CARD OF 'jettisonlaw08.ValueLooks'. -/
def valueLooksCard : Claim7 := { stood := { row := valueLooksRow, standIns := [], harness := (true, "4392a59108e2d4f3cd07ec32d1b40c2dd28a3448763f7cae226d243f5a39d69f"), looks := true }, kinds := [], alts := [], laidByText := true, laidKinds := [.data, .pinned], laidTests := true, laidLooks := .later }
def ValueLooksCardSaid : Prop := Claim7.holds Tryd.pinned (.plain (OpenSpec.ofChange valueLooksSpec)) valueLooksCard

/-- THE TIED CARD OF 'jettisonlaw08.ValueOrder'. -/
def valueOrderCard : Claim7 := { stood := { row := valueOrderRow, standIns := [], harness := (true, "4392a59108e2d4f3cd07ec32d1b40c2dd28a3448763f7cae226d243f5a39d69f"), looks := true }, kinds := [], alts := [], laidByText := true, laidKinds := [.data, .pinned], laidTests := true, laidLooks := .later }
def ValueOrderCardSaid : Prop := Claim7.holds Tryd.pinned (.plain (OpenSpec.ofChange valueOrderSpec)) valueOrderCard

/-- THE SECOND FORM's CARD OF 'jettisonlaw08.ValueTells'. -/
def valueTellsUptoCard : Claim7 := { stood := { row := valueTellsUptoRow, standIns := [], harness := (true, "4392a59108e2d4f3cd07ec32d1b40c2dd28a3448763f7cae226d243f5a39d69f"), looks := true }, kinds := [], alts := [], laidByText := true, laidKinds := [.data, .pinned], laidTests := true, laidLooks := .later }
def ValueTellsUptoCardSaid : Prop := Claim7.holds Tryd.pinned (.plain (OpenSpec.upto valueTellsSpec)) valueTellsUptoCard

/-- THE SECOND FORM's CARD OF 'jettisonlaw08.ValueSums'. -/
def valueSumsUptoCard : Claim7 := { stood := { row := valueSumsUptoRow, standIns := [], harness := (true, "4392a59108e2d4f3cd07ec32d1b40c2dd28a3448763f7cae226d243f5a39d69f"), looks := true }, kinds := [], alts := [], laidByText := true, laidKinds := [.data, .pinned], laidTests := true, laidLooks := .later }
def ValueSumsUptoCardSaid : Prop := Claim7.holds Tryd.pinned (.plain (OpenSpec.upto valueSumsSpec)) valueSumsUptoCard

/-- THE SECOND FORM's CARD OF 'jettisonlaw08.ValueProducts'. -/
def valueProductsUptoCard : Claim7 := { stood := { row := valueProductsUptoRow, standIns := [], harness := (true, "4392a59108e2d4f3cd07ec32d1b40c2dd28a3448763f7cae226d243f5a39d69f"), looks := true }, kinds := [], alts := [], laidByText := true, laidKinds := [.data, .pinned], laidTests := true, laidLooks := .later }
def ValueProductsUptoCardSaid : Prop := Claim7.holds Tryd.pinned (.plain (OpenSpec.upto valueProductsSpec)) valueProductsUptoCard

/-- THE SECOND FORM's CARD OF 'jettisonlaw08.ValueBad'. -/
def valueBadUptoCard : Claim7 := { stood := { row := valueBadUptoRow, standIns := [], harness := (true, "4392a59108e2d4f3cd07ec32d1b40c2dd28a3448763f7cae226d243f5a39d69f"), looks := true }, kinds := [], alts := [], laidByText := true, laidKinds := [.data, .pinned], laidTests := true, laidLooks := .later }
def ValueBadUptoCardSaid : Prop := Claim7.holds Tryd.pinned (.plain (OpenSpec.upto valueBadSpec)) valueBadUptoCard

/-- THE SECOND FORM's CARD OF 'jettisonlaw08.ValueLooks'. -/
def valueLooksUptoCard : Claim7 := { stood := { row := valueLooksUptoRow, standIns := [], harness := (true, "4392a59108e2d4f3cd07ec32d1b40c2dd28a3448763f7cae226d243f5a39d69f"), looks := true }, kinds := [], alts := [], laidByText := true, laidKinds := [.data, .pinned], laidTests := true, laidLooks := .later }
def ValueLooksUptoCardSaid : Prop := Claim7.holds Tryd.pinned (.plain (OpenSpec.upto valueLooksSpec)) valueLooksUptoCard

/-- THE SECOND FORM's CARD OF 'jettisonlaw08.ValueOrder'. -/
def valueOrderUptoCard : Claim7 := { stood := { row := valueOrderUptoRow, standIns := [], harness := (true, "4392a59108e2d4f3cd07ec32d1b40c2dd28a3448763f7cae226d243f5a39d69f"), looks := true }, kinds := [], alts := [], laidByText := true, laidKinds := [.data, .pinned], laidTests := true, laidLooks := .later }
def ValueOrderUptoCardSaid : Prop := Claim7.holds Tryd.pinned (.plain (OpenSpec.upto valueOrderSpec)) valueOrderUptoCard
end Rows
end Go.Proofs.YtimmomhgljofnaaDoor
