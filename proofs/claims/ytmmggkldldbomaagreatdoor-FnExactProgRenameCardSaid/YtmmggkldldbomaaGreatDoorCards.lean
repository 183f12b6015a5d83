/-
  DERIVED. GIVEN WITH THE SEED: THE CARDS: each row of YtmmggkldldbomaaGreatDoorRows.lean that lists a variable, with what it lists TIED to the program's text (the seventh form; the later family's looks); each row that meets fmt, with fmt's text TOLD by the authors' own Lean function (tested against real Go, not proved from fmt's source: count such statements apart). THE CARD IS WHAT COUNTS. Prove the row's statement (the work); the ties are given (YtmmggkldldbomaaGreatDoorTie.lean); close each card by the builder's one call (the guide's Derived/Test/ToyasCard.lean, 'card_holds'). Laid BY PROGRAM, IN A SANDBOX (cutbox-door.mjs). By AI agents, Wed Nov 11 2026. No macro, syntax, notation, axiom, sorry.
-/
import Derived.Test.YtmmggkldldbomaaGreatDoorRows
import GoSem.ClaimSeven
namespace Go.Proofs.YtmmggkldldbomaaGreatDoor
namespace Rows

/-- THE TIED CARD OF 'laws.FnRename'. -/
def fnRenameCard : Claim7 := { stood := { row := fnRenameRow, standIns := [], harness := (true, "c61068a09d441e22f32f138b38ca13c69932a214bc558a2b9dbcf8b8622c3a9c"), looks := true }, kinds := [], alts := [], laidByText := true, laidKinds := [.data, .data, .data, .sentinel, .sentinel, .widerDeep], laidTests := true, laidLooks := .later }
def FnRenameCardSaid : Prop := Claim7.holds Tryz.pinned (.plain (OpenSpec.ofChange fnRenameSpec)) fnRenameCard

/-- THE TIED CARD OF 'laws.FnExactProgShift'. -/
def fnExactProgShiftCard : Claim7 := { stood := { row := fnExactProgShiftRow, standIns := [], harness := (true, "c61068a09d441e22f32f138b38ca13c69932a214bc558a2b9dbcf8b8622c3a9c"), looks := true }, kinds := [], alts := [], laidByText := true, laidKinds := [.data, .data, .data, .sentinel, .sentinel, .widerDeep], laidTests := true, laidLooks := .later }
def FnExactProgShiftCardSaid : Prop := Claim7.holds Tryz.pinned (.plain (OpenSpec.ofChange fnExactProgShiftSpec)) fnExactProgShiftCard

/-- THE TIED CARD OF 'laws.FnExactProgRename'. -/
def fnExactProgRenameCard : Claim7 := { stood := { row := fnExactProgRenameRow, standIns := [], harness := (true, "c61068a09d441e22f32f138b38ca13c69932a214bc558a2b9dbcf8b8622c3a9c"), looks := true }, kinds := [], alts := [], laidByText := true, laidKinds := [.data, .data, .data, .sentinel, .sentinel, .widerDeep], laidTests := true, laidLooks := .later }
def FnExactProgRenameCardSaid : Prop := Claim7.holds Tryz.pinned (.plain (OpenSpec.ofChange fnExactProgRenameSpec)) fnExactProgRenameCard

/-- THE TIED CARD OF 'laws.FnInline'. -/
def fnInlineCard : Claim7 := { stood := { row := fnInlineRow, standIns := [], harness := (true, "c61068a09d441e22f32f138b38ca13c69932a214bc558a2b9dbcf8b8622c3a9c"), looks := true }, kinds := [], alts := [], laidByText := true, laidKinds := [.data, .data, .data, .sentinel, .sentinel, .widerDeep], laidTests := true, laidLooks := .later }
def FnInlineCardSaid : Prop := Claim7.holds Tryz.pinned (.plain (OpenSpec.ofChange fnInlineSpec)) fnInlineCard

/-- THE TIED CARD OF 'laws.FnInlineTwo'. -/
def fnInlineTwoCard : Claim7 := { stood := { row := fnInlineTwoRow, standIns := [], harness := (true, "c61068a09d441e22f32f138b38ca13c69932a214bc558a2b9dbcf8b8622c3a9c"), looks := true }, kinds := [], alts := [], laidByText := true, laidKinds := [.data, .data, .data, .sentinel, .sentinel, .widerDeep], laidTests := true, laidLooks := .later }
def FnInlineTwoCardSaid : Prop := Claim7.holds Tryz.pinned (.plain (OpenSpec.ofChange fnInlineTwoSpec)) fnInlineTwoCard

/-- THE TIED CARD OF 'laws.FnExactProgInline'. -/
def fnExactProgInlineCard : Claim7 := { stood := { row := fnExactProgInlineRow, standIns := [], harness := (true, "c61068a09d441e22f32f138b38ca13c69932a214bc558a2b9dbcf8b8622c3a9c"), looks := true }, kinds := [], alts := [], laidByText := true, laidKinds := [.data, .data, .data, .sentinel, .sentinel, .widerDeep], laidTests := true, laidLooks := .later }
def FnExactProgInlineCardSaid : Prop := Claim7.holds Tryz.pinned (.plain (OpenSpec.ofChange fnExactProgInlineSpec)) fnExactProgInlineCard

/-- THE SECOND FORM's CARD OF 'laws.FnRename'. -/
def fnRenameUptoCard : Claim7 := { stood := { row := fnRenameUptoRow, standIns := [], harness := (true, "c61068a09d441e22f32f138b38ca13c69932a214bc558a2b9dbcf8b8622c3a9c"), looks := true }, kinds := [], alts := [], laidByText := true, laidKinds := [.data, .data, .data, .sentinel, .sentinel, .widerDeep], laidTests := true, laidLooks := .later }
def FnRenameUptoCardSaid : Prop := Claim7.holds Tryz.pinned (.plain (OpenSpec.upto fnRenameSpec)) fnRenameUptoCard

/-- THE SECOND FORM's CARD OF 'laws.FnExactProgShift'. -/
def fnExactProgShiftUptoCard : Claim7 := { stood := { row := fnExactProgShiftUptoRow, standIns := [], harness := (true, "c61068a09d441e22f32f138b38ca13c69932a214bc558a2b9dbcf8b8622c3a9c"), looks := true }, kinds := [], alts := [], laidByText := true, laidKinds := [.data, .data, .data, .sentinel, .sentinel, .widerDeep], laidTests := true, laidLooks := .later }
def FnExactProgShiftUptoCardSaid : Prop := Claim7.holds Tryz.pinned (.plain (OpenSpec.upto fnExactProgShiftSpec)) fnExactProgShiftUptoCard

/-- THE SECOND FORM's CARD OF 'laws.FnExactProgRename'. -/
def fnExactProgRenameUptoCard : Claim7 := { stood := { row := fnExactProgRenameUptoRow, standIns := [], harness := (true, "c61068a09d441e22f32f138b38ca13c69932a214bc558a2b9dbcf8b8622c3a9c"), looks := true }, kinds := [], alts := [], laidByText := true, laidKinds := [.data, .data, .data, .sentinel, .sentinel, .widerDeep], laidTests := true, laidLooks := .later }
def FnExactProgRenameUptoCardSaid : Prop := Claim7.holds Tryz.pinned (.plain (OpenSpec.upto fnExactProgRenameSpec)) fnExactProgRenameUptoCard

/-- THE SECOND FORM's CARD OF 'laws.FnInline'. -/
def fnInlineUptoCard : Claim7 := { stood := { row := fnInlineUptoRow, standIns := [], harness := (true, "c61068a09d441e22f32f138b38ca13c69932a214bc558a2b9dbcf8b8622c3a9c"), looks := true }, kinds := [], alts := [], laidByText := true, laidKinds := [.data, .data, .data, .sentinel, .sentinel, .widerDeep], laidTests := true, laidLooks := .later }
def FnInlineUptoCardSaid : Prop := Claim7.holds Tryz.pinned (.plain (OpenSpec.upto fnInlineSpec)) fnInlineUptoCard

/-- THE SECOND FORM's CARD OF 'laws.FnInlineTwo'. -/
def fnInlineTwoUptoCard : Claim7 := { stood := { row := fnInlineTwoUptoRow, standIns := [], harness := (true, "c61068a09d441e22f32f138b38ca13c69932a214bc558a2b9dbcf8b8622c3a9c"), looks := true }, kinds := [], alts := [], laidByText := true, laidKinds := [.data, .data, .data, .sentinel, .sentinel, .widerDeep], laidTests := true, laidLooks := .later }
def FnInlineTwoUptoCardSaid : Prop := Claim7.holds Tryz.pinned (.plain (OpenSpec.upto fnInlineTwoSpec)) fnInlineTwoUptoCard

/-- THE SECOND FORM's CARD OF 'laws.FnExactProgInline'. -/
def fnExactProgInlineUptoCard : Claim7 := { stood := { row := fnExactProgInlineUptoRow, standIns := [], harness := (true, "c61068a09d441e22f32f138b38ca13c69932a214bc558a2b9dbcf8b8622c3a9c"), looks := true }, kinds := [], alts := [], laidByText := true, laidKinds := [.data, .data, .data, .sentinel, .sentinel, .widerDeep], laidTests := true, laidLooks := .later }
def FnExactProgInlineUptoCardSaid : Prop := Claim7.holds Tryz.pinned (.plain (OpenSpec.upto fnExactProgInlineSpec)) fnExactProgInlineUptoCard
end Rows
end Go.Proofs.YtmmggkldldbomaaGreatDoor
