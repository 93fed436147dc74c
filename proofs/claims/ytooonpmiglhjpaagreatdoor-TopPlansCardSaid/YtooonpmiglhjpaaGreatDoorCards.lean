/-
  DERIVED. GIVEN WITH THE SEED: THE CARDS: each row of YtooonpmiglhjpaaGreatDoorRows.lean that lists a variable, with what it lists TIED to the program's text (the seventh form; the later family's looks); each row that meets fmt, with fmt's text TOLD by the authors' own Lean function (tested against real Go, not proved from fmt's source: count such statements apart). THE CARD IS WHAT COUNTS. Prove the row's statement (the work); the ties are given (YtooonpmiglhjpaaGreatDoorTie.lean); close each card by the builder's one call (the guide's Derived/Test/ToyasCard.lean, 'card_holds'). Laid BY PROGRAM, IN A SANDBOX (cutbox-door.mjs). By AI agents, Wed Nov 11 2026. No macro, syntax, notation, axiom, sorry.
-/
import Derived.Test.YtooonpmiglhjpaaGreatDoorRows
import GoSem.ClaimSeven
namespace Go.Proofs.YtooonpmiglhjpaaGreatDoor
namespace Rows

/-- THE TIED CARD OF 'portmanteautop.TopSums'. -/
def topSumsCard : Claim7 := { stood := { row := topSumsRow, standIns := [], harness := (true, "6c879dd7602fee76a1a37e68e93508657e18e13143f94ca5714edbbe7040c917"), looks := true }, kinds := [], alts := [], laidByText := true, laidKinds := [.data, .pinned], laidTests := true, laidLooks := .later }
def TopSumsCardSaid : Prop := Claim7.holds Tryz.pinned (.plain (OpenSpec.ofChange topSumsSpec)) topSumsCard

/-- THE TIED CARD OF 'portmanteautop.TopRecords'. -/
def topRecordsCard : Claim7 := { stood := { row := topRecordsRow, standIns := [], harness := (true, "6c879dd7602fee76a1a37e68e93508657e18e13143f94ca5714edbbe7040c917"), looks := true }, kinds := [], alts := [], laidByText := true, laidKinds := [.data, .pinned], laidTests := true, laidLooks := .later }
def TopRecordsCardSaid : Prop := Claim7.holds Tryz.pinned (.plain (OpenSpec.ofChange topRecordsSpec)) topRecordsCard

/-- THE TIED CARD OF 'portmanteautop.TopPlans'. -/
def topPlansCard : Claim7 := { stood := { row := topPlansRow, standIns := [], harness := (true, "6c879dd7602fee76a1a37e68e93508657e18e13143f94ca5714edbbe7040c917"), looks := true }, kinds := [], alts := [], laidByText := true, laidKinds := [.data, .pinned], laidTests := true, laidLooks := .later }
def TopPlansCardSaid : Prop := Claim7.holds Tryz.pinned (.plain (OpenSpec.ofChange topPlansSpec)) topPlansCard

/-- THE TIED CARD OF 'portmanteautop.TopFields'. -/
def topFieldsCard : Claim7 := { stood := { row := topFieldsRow, standIns := [], harness := (true, "6c879dd7602fee76a1a37e68e93508657e18e13143f94ca5714edbbe7040c917"), looks := true }, kinds := [], alts := [], laidByText := true, laidKinds := [.data, .pinned], laidTests := true, laidLooks := .later }
def TopFieldsCardSaid : Prop := Claim7.holds Tryz.pinned (.plain (OpenSpec.ofChange topFieldsSpec)) topFieldsCard

/-- THE SECOND FORM's CARD OF 'portmanteautop.TopSums'. -/
def topSumsUptoCard : Claim7 := { stood := { row := topSumsUptoRow, standIns := [], harness := (true, "6c879dd7602fee76a1a37e68e93508657e18e13143f94ca5714edbbe7040c917"), looks := true }, kinds := [], alts := [], laidByText := true, laidKinds := [.data, .pinned], laidTests := true, laidLooks := .later }
def TopSumsUptoCardSaid : Prop := Claim7.holds Tryz.pinned (.plain (OpenSpec.upto topSumsSpec)) topSumsUptoCard

/-- THE SECOND FORM's CARD OF 'portmanteautop.TopRecords'. -/
def topRecordsUptoCard : Claim7 := { stood := { row := topRecordsUptoRow, standIns := [], harness := (true, "6c879dd7602fee76a1a37e68e93508657e18e13143f94ca5714edbbe7040c917"), looks := true }, kinds := [], alts := [], laidByText := true, laidKinds := [.data, .pinned], laidTests := true, laidLooks := .later }
def TopRecordsUptoCardSaid : Prop := Claim7.holds Tryz.pinned (.plain (OpenSpec.upto topRecordsSpec)) topRecordsUptoCard

/-- THE SECOND FORM's CARD OF 'portmanteautop.TopPlans'. -/
def topPlansUptoCard : Claim7 := { stood := { row := topPlansUptoRow, standIns := [], harness := (true, "6c879dd7602fee76a1a37e68e93508657e18e13143f94ca5714edbbe7040c917"), looks := true }, kinds := [], alts := [], laidByText := true, laidKinds := [.data, .pinned], laidTests := true, laidLooks := .later }
def TopPlansUptoCardSaid : Prop := Claim7.holds Tryz.pinned (.plain (OpenSpec.upto topPlansSpec)) topPlansUptoCard

/-- THE SECOND FORM's CARD OF 'portmanteautop.TopFields'. -/
def topFieldsUptoCard : Claim7 := { stood := { row := topFieldsUptoRow, standIns := [], harness := (true, "6c879dd7602fee76a1a37e68e93508657e18e13143f94ca5714edbbe7040c917"), looks := true }, kinds := [], alts := [], laidByText := true, laidKinds := [.data, .pinned], laidTests := true, laidLooks := .later }
def TopFieldsUptoCardSaid : Prop := Claim7.holds Tryz.pinned (.plain (OpenSpec.upto topFieldsSpec)) topFieldsUptoCard
end Rows
end Go.Proofs.YtooonpmiglhjpaaGreatDoor
