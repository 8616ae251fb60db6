/-
  DERIVED. GIVEN WITH THE SEED: THE CARDS: each row of YtdicgggkdmkklaaGreatDoorRows.lean that lists a variable, with what it lists TIED to the program's text (the seventh form; the later family's looks); each row that meets fmt, with fmt's text TOLD by the authors' own Lean function (tested against real Go, not proved from fmt's source: count such statements apart). THE CARD IS WHAT COUNTS. Prove the row's statement (the work); the ties are given (YtdicgggkdmkklaaGreatDoorTie.lean); close each card by the builder's one call (the guide's Derived/Test/ToyasCard.lean, 'card_holds'). Laid BY PROGRAM, IN A SANDBOX (cutbox-door.mjs). By AI agents, Wed Nov 11 2026. No macro, syntax, notation, axiom, sorry.
-/
import Derived.Test.YtdicgggkdmkklaaGreatDoorRows
import GoSem.ClaimSeven
namespace Go.Proofs.YtdicgggkdmkklaaGreatDoor
namespace Rows

/-- THE TIED CARD OF 'cardgamelaw20.AbilityIs'. -/
def abilityIsCard : Claim7 := { stood := { row := abilityIsRow, standIns := [], harness := (true, "05fc3d028adcd31e7f91ba1f9f04230b17001657fc210040677c40a10c13c810"), looks := true }, kinds := [], alts := [], laidByText := true, laidKinds := [.data, .data, .data, .data, .sentinel, .sentinel, .widerDeep, .data, .data, .pinned], laidTests := true, laidLooks := .later }
def AbilityIsCardSaid : Prop := Claim7.holds Tryz.pinned (.plain (OpenSpec.ofChange abilityIsSpec)) abilityIsCard

/-- THE TIED CARD OF 'cardgamelaw20.AbilityParses'. -/
def abilityParsesCard : Claim7 := { stood := { row := abilityParsesRow, standIns := [], harness := (true, "05fc3d028adcd31e7f91ba1f9f04230b17001657fc210040677c40a10c13c810"), looks := true }, kinds := [], alts := [], laidByText := true, laidKinds := [.data, .data, .data, .data, .sentinel, .sentinel, .widerDeep, .data, .data, .pinned], laidTests := true, laidLooks := .later }
def AbilityParsesCardSaid : Prop := Claim7.holds Tryz.pinned (.plain (OpenSpec.ofChange abilityParsesSpec)) abilityParsesCard

/-- THE TIED CARD OF 'cardgamelaw20.AbilityParts'. -/
def abilityPartsCard : Claim7 := { stood := { row := abilityPartsRow, standIns := [], harness := (true, "05fc3d028adcd31e7f91ba1f9f04230b17001657fc210040677c40a10c13c810"), looks := true }, kinds := [], alts := [], laidByText := true, laidKinds := [.data, .data, .data, .data, .sentinel, .sentinel, .widerDeep, .data, .data, .pinned], laidTests := true, laidLooks := .later }
def AbilityPartsCardSaid : Prop := Claim7.holds Tryz.pinned (.plain (OpenSpec.ofChange abilityPartsSpec)) abilityPartsCard

/-- THE TIED CARD OF 'cardgamelaw20.AbilityBack'. -/
def abilityBackCard : Claim7 := { stood := { row := abilityBackRow, standIns := [], harness := (true, "05fc3d028adcd31e7f91ba1f9f04230b17001657fc210040677c40a10c13c810"), looks := true }, kinds := [], alts := [], laidByText := true, laidKinds := [.data, .data, .data, .data, .sentinel, .sentinel, .widerDeep, .data, .data, .pinned], laidTests := true, laidLooks := .later }
def AbilityBackCardSaid : Prop := Claim7.holds Tryz.pinned (.plain (OpenSpec.ofChange abilityBackSpec)) abilityBackCard

/-- THE TIED CARD OF 'cardgamelaw20.AbilityTexts'. -/
def abilityTextsCard : Claim7 := { stood := { row := abilityTextsRow, standIns := [], harness := (true, "05fc3d028adcd31e7f91ba1f9f04230b17001657fc210040677c40a10c13c810"), looks := true }, kinds := [], alts := [], laidByText := true, laidKinds := [.data, .data, .data, .data, .sentinel, .sentinel, .widerDeep, .data, .data, .pinned], laidTests := true, laidLooks := .later }
def AbilityTextsCardSaid : Prop := Claim7.holds Tryz.pinned (.plain (OpenSpec.ofChange abilityTextsSpec)) abilityTextsCard

/-- THE TIED CARD OF 'cardgamelaw20.AbilityKinds'. -/
def abilityKindsCard : Claim7 := { stood := { row := abilityKindsRow, standIns := [], harness := (true, "05fc3d028adcd31e7f91ba1f9f04230b17001657fc210040677c40a10c13c810"), looks := true }, kinds := [], alts := [], laidByText := true, laidKinds := [.data, .data, .data, .data, .sentinel, .sentinel, .widerDeep, .data, .data, .pinned], laidTests := true, laidLooks := .later }
def AbilityKindsCardSaid : Prop := Claim7.holds Tryz.pinned (.plain (OpenSpec.ofChange abilityKindsSpec)) abilityKindsCard

/-- THE SECOND FORM's CARD OF 'cardgamelaw20.AbilityIs'. -/
def abilityIsUptoCard : Claim7 := { stood := { row := abilityIsUptoRow, standIns := [], harness := (true, "05fc3d028adcd31e7f91ba1f9f04230b17001657fc210040677c40a10c13c810"), looks := true }, kinds := [], alts := [], laidByText := true, laidKinds := [.data, .data, .data, .data, .sentinel, .sentinel, .widerDeep, .data, .data, .pinned], laidTests := true, laidLooks := .later }
def AbilityIsUptoCardSaid : Prop := Claim7.holds Tryz.pinned (.plain (OpenSpec.upto abilityIsSpec)) abilityIsUptoCard

/-- THE SECOND FORM's CARD OF 'cardgamelaw20.AbilityParses'. -/
def abilityParsesUptoCard : Claim7 := { stood := { row := abilityParsesUptoRow, standIns := [], harness := (true, "05fc3d028adcd31e7f91ba1f9f04230b17001657fc210040677c40a10c13c810"), looks := true }, kinds := [], alts := [], laidByText := true, laidKinds := [.data, .data, .data, .data, .sentinel, .sentinel, .widerDeep, .data, .data, .pinned], laidTests := true, laidLooks := .later }
def AbilityParsesUptoCardSaid : Prop := Claim7.holds Tryz.pinned (.plain (OpenSpec.upto abilityParsesSpec)) abilityParsesUptoCard

/-- THE SECOND FORM's CARD OF 'cardgamelaw20.AbilityParts'. -/
def abilityPartsUptoCard : Claim7 := { stood := { row := abilityPartsUptoRow, standIns := [], harness := (true, "05fc3d028adcd31e7f91ba1f9f04230b17001657fc210040677c40a10c13c810"), looks := true }, kinds := [], alts := [], laidByText := true, laidKinds := [.data, .data, .data, .data, .sentinel, .sentinel, .widerDeep, .data, .data, .pinned], laidTests := true, laidLooks := .later }
def AbilityPartsUptoCardSaid : Prop := Claim7.holds Tryz.pinned (.plain (OpenSpec.upto abilityPartsSpec)) abilityPartsUptoCard

/-- THE SECOND FORM's CARD OF 'cardgamelaw20.AbilityBack'. -/
def abilityBackUptoCard : Claim7 := { stood := { row := abilityBackUptoRow, standIns := [], harness := (true, "05fc3d028adcd31e7f91ba1f9f04230b17001657fc210040677c40a10c13c810"), looks := true }, kinds := [], alts := [], laidByText := true, laidKinds := [.data, .data, .data, .data, .sentinel, .sentinel, .widerDeep, .data, .data, .pinned], laidTests := true, laidLooks := .later }
def AbilityBackUptoCardSaid : Prop := Claim7.holds Tryz.pinned (.plain (OpenSpec.upto abilityBackSpec)) abilityBackUptoCard

/-- THE SECOND FORM's CARD OF 'cardgamelaw20.AbilityTexts'. -/
def abilityTextsUptoCard : Claim7 := { stood := { row := abilityTextsUptoRow, standIns := [], harness := (true, "05fc3d028adcd31e7f91ba1f9f04230b17001657fc210040677c40a10c13c810"), looks := true }, kinds := [], alts := [], laidByText := true, laidKinds := [.data, .data, .data, .data, .sentinel, .sentinel, .widerDeep, .data, .data, .pinned], laidTests := true, laidLooks := .later }
def AbilityTextsUptoCardSaid : Prop := Claim7.holds Tryz.pinned (.plain (OpenSpec.upto abilityTextsSpec)) abilityTextsUptoCard

/-- THE SECOND FORM's CARD OF 'cardgamelaw20.AbilityKinds'. -/
def abilityKindsUptoCard : Claim7 := { stood := { row := abilityKindsUptoRow, standIns := [], harness := (true, "05fc3d028adcd31e7f91ba1f9f04230b17001657fc210040677c40a10c13c810"), looks := true }, kinds := [], alts := [], laidByText := true, laidKinds := [.data, .data, .data, .data, .sentinel, .sentinel, .widerDeep, .data, .data, .pinned], laidTests := true, laidLooks := .later }
def AbilityKindsUptoCardSaid : Prop := Claim7.holds Tryz.pinned (.plain (OpenSpec.upto abilityKindsSpec)) abilityKindsUptoCard
end Rows
end Go.Proofs.YtdicgggkdmkklaaGreatDoor
