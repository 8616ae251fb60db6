/-
  DERIVED. GIVEN WITH THE SEED: THE CARDS: each row of YtbiakbogpbncfaaGreatDoorRows.lean that lists a variable, with what it lists TIED to the program's text (the seventh form; the later family's looks); each row that meets fmt, with fmt's text TOLD by the authors' own Lean function (tested against real Go, not proved from fmt's source: count such statements apart). THE CARD IS WHAT COUNTS. Prove the row's statement (the work); the ties are given (YtbiakbogpbncfaaGreatDoorTie.lean); close each card by the builder's one call (the guide's Derived/Test/ToyasCard.lean, 'card_holds'). Laid BY PROGRAM, IN A SANDBOX (cutbox-door.mjs). By AI agents, Wed Nov 11 2026. No macro, syntax, notation, axiom, sorry.
-/
import Derived.Test.YtbiakbogpbncfaaGreatDoorRows
import GoSem.ClaimSeven
namespace Go.Proofs.YtbiakbogpbncfaaGreatDoor
namespace Rows

/-- THE TIED CARD OF 'cardgamelaw16.RefIs'. -/
def refIsCard : Claim7 := { stood := { row := refIsRow, standIns := [], harness := (true, "76343a724e62f025649ae6adfb62678461e5cd03c54df52eae21a66ea2ab3f36"), looks := true }, kinds := [], alts := [], laidByText := true, laidKinds := [.data, .data, .data, .data, .sentinel, .sentinel, .data, .pinned], laidTests := true, laidLooks := .later }
def RefIsCardSaid : Prop := Claim7.holds Tryz.pinned (.plain (OpenSpec.ofChange refIsSpec)) refIsCard

/-- THE TIED CARD OF 'cardgamelaw16.RefTexts'. -/
def refTextsCard : Claim7 := { stood := { row := refTextsRow, standIns := [], harness := (true, "76343a724e62f025649ae6adfb62678461e5cd03c54df52eae21a66ea2ab3f36"), looks := true }, kinds := [], alts := [], laidByText := true, laidKinds := [.data, .data, .data, .data, .sentinel, .sentinel, .data, .pinned], laidTests := true, laidLooks := .later }
def RefTextsCardSaid : Prop := Claim7.holds Tryz.pinned (.plain (OpenSpec.ofChange refTextsSpec)) refTextsCard

/-- THE TIED CARD OF 'cardgamelaw16.RefParses'. -/
def refParsesCard : Claim7 := { stood := { row := refParsesRow, standIns := [], harness := (true, "76343a724e62f025649ae6adfb62678461e5cd03c54df52eae21a66ea2ab3f36"), looks := true }, kinds := [], alts := [], laidByText := true, laidKinds := [.data, .data, .data, .data, .sentinel, .sentinel, .data, .pinned], laidTests := true, laidLooks := .later }
def RefParsesCardSaid : Prop := Claim7.holds Tryz.pinned (.plain (OpenSpec.ofChange refParsesSpec)) refParsesCard

/-- THE TIED CARD OF 'cardgamelaw16.RefBack'. -/
def refBackCard : Claim7 := { stood := { row := refBackRow, standIns := [], harness := (true, "76343a724e62f025649ae6adfb62678461e5cd03c54df52eae21a66ea2ab3f36"), looks := true }, kinds := [], alts := [], laidByText := true, laidKinds := [.data, .data, .data, .data, .sentinel, .sentinel, .data, .pinned], laidTests := true, laidLooks := .later }
def RefBackCardSaid : Prop := Claim7.holds Tryz.pinned (.plain (OpenSpec.ofChange refBackSpec)) refBackCard

/-- THE TIED CARD OF 'cardgamelaw16.RefSpecs'. -/
def refSpecsCard : Claim7 := { stood := { row := refSpecsRow, standIns := [], harness := (true, "76343a724e62f025649ae6adfb62678461e5cd03c54df52eae21a66ea2ab3f36"), looks := true }, kinds := [], alts := [], laidByText := true, laidKinds := [.data, .data, .data, .data, .sentinel, .sentinel, .data, .pinned], laidTests := true, laidLooks := .later }
def RefSpecsCardSaid : Prop := Claim7.holds Tryz.pinned (.plain (OpenSpec.ofChange refSpecsSpec)) refSpecsCard

/-- THE SECOND FORM's CARD OF 'cardgamelaw16.RefIs'. -/
def refIsUptoCard : Claim7 := { stood := { row := refIsUptoRow, standIns := [], harness := (true, "76343a724e62f025649ae6adfb62678461e5cd03c54df52eae21a66ea2ab3f36"), looks := true }, kinds := [], alts := [], laidByText := true, laidKinds := [.data, .data, .data, .data, .sentinel, .sentinel, .data, .pinned], laidTests := true, laidLooks := .later }
def RefIsUptoCardSaid : Prop := Claim7.holds Tryz.pinned (.plain (OpenSpec.upto refIsSpec)) refIsUptoCard

/-- THE SECOND FORM's CARD OF 'cardgamelaw16.RefTexts'. -/
def refTextsUptoCard : Claim7 := { stood := { row := refTextsUptoRow, standIns := [], harness := (true, "76343a724e62f025649ae6adfb62678461e5cd03c54df52eae21a66ea2ab3f36"), looks := true }, kinds := [], alts := [], laidByText := true, laidKinds := [.data, .data, .data, .data, .sentinel, .sentinel, .data, .pinned], laidTests := true, laidLooks := .later }
def RefTextsUptoCardSaid : Prop := Claim7.holds Tryz.pinned (.plain (OpenSpec.upto refTextsSpec)) refTextsUptoCard

/-- THE SECOND FORM's CARD OF 'cardgamelaw16.RefParses'. -/
def refParsesUptoCard : Claim7 := { stood := { row := refParsesUptoRow, standIns := [], harness := (true, "76343a724e62f025649ae6adfb62678461e5cd03c54df52eae21a66ea2ab3f36"), looks := true }, kinds := [], alts := [], laidByText := true, laidKinds := [.data, .data, .data, .data, .sentinel, .sentinel, .data, .pinned], laidTests := true, laidLooks := .later }
def RefParsesUptoCardSaid : Prop := Claim7.holds Tryz.pinned (.plain (OpenSpec.upto refParsesSpec)) refParsesUptoCard

/-- THE SECOND FORM's CARD OF 'cardgamelaw16.RefBack'. -/
def refBackUptoCard : Claim7 := { stood := { row := refBackUptoRow, standIns := [], harness := (true, "76343a724e62f025649ae6adfb62678461e5cd03c54df52eae21a66ea2ab3f36"), looks := true }, kinds := [], alts := [], laidByText := true, laidKinds := [.data, .data, .data, .data, .sentinel, .sentinel, .data, .pinned], laidTests := true, laidLooks := .later }
def RefBackUptoCardSaid : Prop := Claim7.holds Tryz.pinned (.plain (OpenSpec.upto refBackSpec)) refBackUptoCard

/-- THE SECOND FORM's CARD OF 'cardgamelaw16.RefSpecs'. -/
def refSpecsUptoCard : Claim7 := { stood := { row := refSpecsUptoRow, standIns := [], harness := (true, "76343a724e62f025649ae6adfb62678461e5cd03c54df52eae21a66ea2ab3f36"), looks := true }, kinds := [], alts := [], laidByText := true, laidKinds := [.data, .data, .data, .data, .sentinel, .sentinel, .data, .pinned], laidTests := true, laidLooks := .later }
def RefSpecsUptoCardSaid : Prop := Claim7.holds Tryz.pinned (.plain (OpenSpec.upto refSpecsSpec)) refSpecsUptoCard
end Rows
end Go.Proofs.YtbiakbogpbncfaaGreatDoor
