/-
  DERIVED. GIVEN WITH THE SEED: THE CARDS: each row of YtbdlklncblklnaaGreatDoorRows.lean that lists a variable, with what it lists TIED to the program's text (the seventh form; the later family's looks); each row that meets fmt, with fmt's text TOLD by the authors' own Lean function (tested against real Go, not proved from fmt's source: count such statements apart). THE CARD IS WHAT COUNTS. Prove the row's statement (the work); the ties are given (YtbdlklncblklnaaGreatDoorTie.lean); close each card by the builder's one call (the guide's Derived/Test/ToyasCard.lean, 'card_holds'). Laid BY PROGRAM, IN A SANDBOX (cutbox-door.mjs). By AI agents, Wed Nov 11 2026. No macro, syntax, notation, axiom, sorry.
-/
import Derived.Test.YtbdlklncblklnaaGreatDoorRows
import GoSem.ClaimSeven
namespace Go.Proofs.YtbdlklncblklnaaGreatDoor
namespace Rows

/-- THE TIED CARD OF 'laws.FnSpanTight'. -/
def fnSpanTightCard : Claim7 := { stood := { row := fnSpanTightRow, standIns := [], harness := (true, "fe464f349b66b4a67475fca4c1c15696f4051540f7e50f97f4284040108ad211"), looks := false }, kinds := [], alts := [], laidByText := true, laidKinds := [.data], laidTests := true, laidLooks := .later }
def FnSpanTightCardSaid : Prop := Claim7.holds Tryz.pinned (.plain (OpenSpec.ofChange fnSpanTightSpec)) fnSpanTightCard

/-- THE TIED CARD OF 'laws.FnSpanDivTwo'. -/
def fnSpanDivTwoCard : Claim7 := { stood := { row := fnSpanDivTwoRow, standIns := [], harness := (true, "fe464f349b66b4a67475fca4c1c15696f4051540f7e50f97f4284040108ad211"), looks := false }, kinds := [], alts := [], laidByText := true, laidKinds := [.data], laidTests := true, laidLooks := .later }
def FnSpanDivTwoCardSaid : Prop := Claim7.holds Tryz.pinned (.plain (OpenSpec.ofChange fnSpanDivTwoSpec)) fnSpanDivTwoCard

/-- THE TIED CARD OF 'laws.FnBackGap'. -/
def fnBackGapCard : Claim7 := { stood := { row := fnBackGapRow, standIns := [], harness := (true, "fe464f349b66b4a67475fca4c1c15696f4051540f7e50f97f4284040108ad211"), looks := false }, kinds := [], alts := [], laidByText := true, laidKinds := [.data], laidTests := true, laidLooks := .later }
def FnBackGapCardSaid : Prop := Claim7.holds Tryz.pinned (.plain (OpenSpec.ofChange fnBackGapSpec)) fnBackGapCard

/-- THE TIED CARD OF 'laws.FnExactFloatShow'. -/
def fnExactFloatShowCard : Claim7 := { stood := { row := fnExactFloatShowRow, standIns := [], harness := (true, "fe464f349b66b4a67475fca4c1c15696f4051540f7e50f97f4284040108ad211"), looks := false }, kinds := [], alts := [], laidByText := true, laidKinds := [.data, .data, .data, .data, .pinned], laidTests := true, laidLooks := .later }
def FnExactFloatShowCardSaid : Prop := Claim7.holds Tryz.pinned (.plain (OpenSpec.ofChange fnExactFloatShowSpec)) fnExactFloatShowCard

/-- THE TIED CARD OF 'laws.FnSpanMore'. -/
def fnSpanMoreCard : Claim7 := { stood := { row := fnSpanMoreRow, standIns := [], harness := (true, "fe464f349b66b4a67475fca4c1c15696f4051540f7e50f97f4284040108ad211"), looks := false }, kinds := [], alts := [], laidByText := true, laidKinds := [.data], laidTests := true, laidLooks := .later }
def FnSpanMoreCardSaid : Prop := Claim7.holds Tryz.pinned (.plain (OpenSpec.ofChange fnSpanMoreSpec)) fnSpanMoreCard

/-- THE TIED CARD OF 'laws.FnSpanWidths'. -/
def fnSpanWidthsCard : Claim7 := { stood := { row := fnSpanWidthsRow, standIns := [], harness := (true, "fe464f349b66b4a67475fca4c1c15696f4051540f7e50f97f4284040108ad211"), looks := false }, kinds := [], alts := [], laidByText := true, laidKinds := [.data], laidTests := true, laidLooks := .later }
def FnSpanWidthsCardSaid : Prop := Claim7.holds Tryz.pinned (.plain (OpenSpec.ofChange fnSpanWidthsSpec)) fnSpanWidthsCard

/-- THE TIED CARD OF 'laws.FnSpanTop'. -/
def fnSpanTopCard : Claim7 := { stood := { row := fnSpanTopRow, standIns := [], harness := (true, "fe464f349b66b4a67475fca4c1c15696f4051540f7e50f97f4284040108ad211"), looks := false }, kinds := [], alts := [], laidByText := true, laidKinds := [.data], laidTests := true, laidLooks := .later }
def FnSpanTopCardSaid : Prop := Claim7.holds Tryz.pinned (.plain (OpenSpec.ofChange fnSpanTopSpec)) fnSpanTopCard

/-- THE TIED CARD OF 'laws.FnFloatShow'. -/
def fnFloatShowCard : Claim7 := { stood := { row := fnFloatShowRow, standIns := [], harness := (true, "fe464f349b66b4a67475fca4c1c15696f4051540f7e50f97f4284040108ad211"), looks := false }, kinds := [], alts := [], laidByText := true, laidKinds := [.data, .data, .data, .data, .pinned], laidTests := true, laidLooks := .later }
def FnFloatShowCardSaid : Prop := Claim7.holds Tryz.pinned (.plain (OpenSpec.ofChange fnFloatShowSpec)) fnFloatShowCard

/-- THE TIED CARD OF 'laws.FnBackTop'. -/
def fnBackTopCard : Claim7 := { stood := { row := fnBackTopRow, standIns := [], harness := (true, "fe464f349b66b4a67475fca4c1c15696f4051540f7e50f97f4284040108ad211"), looks := false }, kinds := [], alts := [], laidByText := true, laidKinds := [.data], laidTests := true, laidLooks := .later }
def FnBackTopCardSaid : Prop := Claim7.holds Tryz.pinned (.plain (OpenSpec.ofChange fnBackTopSpec)) fnBackTopCard

/-- THE SECOND FORM's CARD OF 'laws.FnSpanTight'. -/
def fnSpanTightUptoCard : Claim7 := { stood := { row := fnSpanTightUptoRow, standIns := [], harness := (true, "fe464f349b66b4a67475fca4c1c15696f4051540f7e50f97f4284040108ad211"), looks := false }, kinds := [], alts := [], laidByText := true, laidKinds := [.data], laidTests := true, laidLooks := .later }
def FnSpanTightUptoCardSaid : Prop := Claim7.holds Tryz.pinned (.plain (OpenSpec.upto fnSpanTightSpec)) fnSpanTightUptoCard

/-- THE SECOND FORM's CARD OF 'laws.FnSpanDivTwo'. -/
def fnSpanDivTwoUptoCard : Claim7 := { stood := { row := fnSpanDivTwoUptoRow, standIns := [], harness := (true, "fe464f349b66b4a67475fca4c1c15696f4051540f7e50f97f4284040108ad211"), looks := false }, kinds := [], alts := [], laidByText := true, laidKinds := [.data], laidTests := true, laidLooks := .later }
def FnSpanDivTwoUptoCardSaid : Prop := Claim7.holds Tryz.pinned (.plain (OpenSpec.upto fnSpanDivTwoSpec)) fnSpanDivTwoUptoCard

/-- THE SECOND FORM's CARD OF 'laws.FnBackGap'. -/
def fnBackGapUptoCard : Claim7 := { stood := { row := fnBackGapUptoRow, standIns := [], harness := (true, "fe464f349b66b4a67475fca4c1c15696f4051540f7e50f97f4284040108ad211"), looks := false }, kinds := [], alts := [], laidByText := true, laidKinds := [.data], laidTests := true, laidLooks := .later }
def FnBackGapUptoCardSaid : Prop := Claim7.holds Tryz.pinned (.plain (OpenSpec.upto fnBackGapSpec)) fnBackGapUptoCard

/-- THE SECOND FORM's CARD OF 'laws.FnExactFloatShow'. -/
def fnExactFloatShowUptoCard : Claim7 := { stood := { row := fnExactFloatShowUptoRow, standIns := [], harness := (true, "fe464f349b66b4a67475fca4c1c15696f4051540f7e50f97f4284040108ad211"), looks := false }, kinds := [], alts := [], laidByText := true, laidKinds := [.data, .data, .data, .data, .pinned], laidTests := true, laidLooks := .later }
def FnExactFloatShowUptoCardSaid : Prop := Claim7.holds Tryz.pinned (.plain (OpenSpec.upto fnExactFloatShowSpec)) fnExactFloatShowUptoCard

/-- THE SECOND FORM's CARD OF 'laws.FnSpanMore'. -/
def fnSpanMoreUptoCard : Claim7 := { stood := { row := fnSpanMoreUptoRow, standIns := [], harness := (true, "fe464f349b66b4a67475fca4c1c15696f4051540f7e50f97f4284040108ad211"), looks := false }, kinds := [], alts := [], laidByText := true, laidKinds := [.data], laidTests := true, laidLooks := .later }
def FnSpanMoreUptoCardSaid : Prop := Claim7.holds Tryz.pinned (.plain (OpenSpec.upto fnSpanMoreSpec)) fnSpanMoreUptoCard

/-- THE SECOND FORM's CARD OF 'laws.FnSpanWidths'. -/
def fnSpanWidthsUptoCard : Claim7 := { stood := { row := fnSpanWidthsUptoRow, standIns := [], harness := (true, "fe464f349b66b4a67475fca4c1c15696f4051540f7e50f97f4284040108ad211"), looks := false }, kinds := [], alts := [], laidByText := true, laidKinds := [.data], laidTests := true, laidLooks := .later }
def FnSpanWidthsUptoCardSaid : Prop := Claim7.holds Tryz.pinned (.plain (OpenSpec.upto fnSpanWidthsSpec)) fnSpanWidthsUptoCard

/-- THE SECOND FORM's CARD OF 'laws.FnSpanTop'. -/
def fnSpanTopUptoCard : Claim7 := { stood := { row := fnSpanTopUptoRow, standIns := [], harness := (true, "fe464f349b66b4a67475fca4c1c15696f4051540f7e50f97f4284040108ad211"), looks := false }, kinds := [], alts := [], laidByText := true, laidKinds := [.data], laidTests := true, laidLooks := .later }
def FnSpanTopUptoCardSaid : Prop := Claim7.holds Tryz.pinned (.plain (OpenSpec.upto fnSpanTopSpec)) fnSpanTopUptoCard

/-- THE SECOND FORM's CARD OF 'laws.FnFloatShow'. -/
def fnFloatShowUptoCard : Claim7 := { stood := { row := fnFloatShowUptoRow, standIns := [], harness := (true, "fe464f349b66b4a67475fca4c1c15696f4051540f7e50f97f4284040108ad211"), looks := false }, kinds := [], alts := [], laidByText := true, laidKinds := [.data, .data, .data, .data, .pinned], laidTests := true, laidLooks := .later }
def FnFloatShowUptoCardSaid : Prop := Claim7.holds Tryz.pinned (.plain (OpenSpec.upto fnFloatShowSpec)) fnFloatShowUptoCard

/-- THE SECOND FORM's CARD OF 'laws.FnBackTop'. -/
def fnBackTopUptoCard : Claim7 := { stood := { row := fnBackTopUptoRow, standIns := [], harness := (true, "fe464f349b66b4a67475fca4c1c15696f4051540f7e50f97f4284040108ad211"), looks := false }, kinds := [], alts := [], laidByText := true, laidKinds := [.data], laidTests := true, laidLooks := .later }
def FnBackTopUptoCardSaid : Prop := Claim7.holds Tryz.pinned (.plain (OpenSpec.upto fnBackTopSpec)) fnBackTopUptoCard
end Rows
end Go.Proofs.YtbdlklncblklnaaGreatDoor
