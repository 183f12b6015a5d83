/-
  DERIVED. GIVEN WITH THE SEED: THE CARDS: each row of YthallaeafilbbaaGreatDoorRows.lean that lists a variable, with what it lists TIED to the program's text (the seventh form; the later family's looks); each row that meets fmt, with fmt's text TOLD by the authors' own Lean function (tested against real Go, not proved from fmt's source: count such statements apart). THE CARD IS WHAT COUNTS. Prove the row's statement (the work); the ties are given (YthallaeafilbbaaGreatDoorTie.lean); close each card by the builder's one call (the guide's Derived/Test/ToyasCard.lean, 'card_holds'). Laid BY PROGRAM, IN A SANDBOX (cutbox-door.mjs). By AI agents, Wed Nov 11 2026. No macro, syntax, notation, axiom, sorry.
-/
import Derived.Test.YthallaeafilbbaaGreatDoorRows
import GoSem.ClaimSeven
namespace Go.Proofs.YthallaeafilbbaaGreatDoor
namespace Rows

/-- THE TIED CARD OF 'laws.FnExactBoxShow'. -/
def fnExactBoxShowCard : Claim7 := { stood := { row := fnExactBoxShowRow, standIns := [], harness := (true, "798a5bb945c494ae641c11141beea7a2fb2073047e64cf18e3a9630af039c49e"), looks := true }, kinds := [], alts := [], laidByText := true, laidKinds := [.data, .data, .data, .data, .widerDeep, .pinned], laidTests := true, laidLooks := .later }
def FnExactBoxShowCardSaid : Prop := Claim7.holds Tryz.pinned (.plain (OpenSpec.ofChange fnExactBoxShowSpec)) fnExactBoxShowCard

/-- THE TIED CARD OF 'laws.FnTermBack'. -/
def fnTermBackCard : Claim7 := { stood := { row := fnTermBackRow, standIns := [], harness := (true, "798a5bb945c494ae641c11141beea7a2fb2073047e64cf18e3a9630af039c49e"), looks := true }, kinds := [], alts := [], laidByText := true, laidKinds := [.data, .data, .data, .sentinel, .sentinel, .widerDeep], laidTests := true, laidLooks := .later }
def FnTermBackCardSaid : Prop := Claim7.holds Tryz.pinned (.plain (OpenSpec.ofChange fnTermBackSpec)) fnTermBackCard

/-- THE SECOND FORM's CARD OF 'laws.FnExactBoxShow'. -/
def fnExactBoxShowUptoCard : Claim7 := { stood := { row := fnExactBoxShowUptoRow, standIns := [], harness := (true, "798a5bb945c494ae641c11141beea7a2fb2073047e64cf18e3a9630af039c49e"), looks := true }, kinds := [], alts := [], laidByText := true, laidKinds := [.data, .data, .data, .data, .widerDeep, .pinned], laidTests := true, laidLooks := .later }
def FnExactBoxShowUptoCardSaid : Prop := Claim7.holds Tryz.pinned (.plain (OpenSpec.upto fnExactBoxShowSpec)) fnExactBoxShowUptoCard

/-- THE SECOND FORM's CARD OF 'laws.FnTermBack'. -/
def fnTermBackUptoCard : Claim7 := { stood := { row := fnTermBackUptoRow, standIns := [], harness := (true, "798a5bb945c494ae641c11141beea7a2fb2073047e64cf18e3a9630af039c49e"), looks := true }, kinds := [], alts := [], laidByText := true, laidKinds := [.data, .data, .data, .sentinel, .sentinel, .widerDeep], laidTests := true, laidLooks := .later }
def FnTermBackUptoCardSaid : Prop := Claim7.holds Tryz.pinned (.plain (OpenSpec.upto fnTermBackSpec)) fnTermBackUptoCard
end Rows
end Go.Proofs.YthallaeafilbbaaGreatDoor
