/-
  DERIVED. GIVEN WITH THE SEED: THE CARDS: each row of YtefmbmafdgedmaaGreatDoorRows.lean that lists a variable, with what it lists TIED to the program's text (the seventh form; the later family's looks); each row that meets fmt, with fmt's text TOLD by the authors' own Lean function (tested against real Go, not proved from fmt's source: count such statements apart). THE CARD IS WHAT COUNTS. Prove the row's statement (the work); the ties are given (YtefmbmafdgedmaaGreatDoorTie.lean); close each card by the builder's one call (the guide's Derived/Test/ToyasCard.lean, 'card_holds'). Laid BY PROGRAM, IN A SANDBOX (cutbox-door.mjs). By AI agents, Wed Nov 11 2026. No macro, syntax, notation, axiom, sorry.
-/
import Derived.Test.YtefmbmafdgedmaaGreatDoorRows
import GoSem.ClaimSeven
namespace Go.Proofs.YtefmbmafdgedmaaGreatDoor
namespace Rows

/-- THE TIED CARD OF 'laws.FnMapProg'. -/
def fnMapProgCard : Claim7 := { stood := { row := fnMapProgRow, standIns := [], harness := (true, "7addb6edbeac9053f6e543b6a53f6ed72fe18f0cd9e4f2ff72d6720c29e49501"), looks := true }, kinds := [], alts := [], laidByText := true, laidKinds := [.data, .data, .data, .data, .sentinel, .sentinel, .widerDeep, .pinned], laidTests := true, laidLooks := .later }
def FnMapProgCardSaid : Prop := Claim7.holds Tryz.pinned (.plain (OpenSpec.ofChange fnMapProgSpec)) fnMapProgCard

/-- THE TIED CARD OF 'laws.FnExactBareRead'. -/
def fnExactBareReadCard : Claim7 := { stood := { row := fnExactBareReadRow, standIns := [], harness := (true, "7addb6edbeac9053f6e543b6a53f6ed72fe18f0cd9e4f2ff72d6720c29e49501"), looks := true }, kinds := [], alts := [], laidByText := true, laidKinds := [.data, .data, .data, .sentinel, .sentinel, .widerDeep], laidTests := true, laidLooks := .later }
def FnExactBareReadCardSaid : Prop := Claim7.holds Tryz.pinned (.plain (OpenSpec.ofChange fnExactBareReadSpec)) fnExactBareReadCard

/-- THE TIED CARD OF 'laws.FnExactBookOf'. -/
def fnExactBookOfCard : Claim7 := { stood := { row := fnExactBookOfRow, standIns := [], harness := (true, "7addb6edbeac9053f6e543b6a53f6ed72fe18f0cd9e4f2ff72d6720c29e49501"), looks := true }, kinds := [], alts := [], laidByText := true, laidKinds := [.data, .data, .data, .data, .sentinel, .sentinel, .widerDeep, .pinned], laidTests := true, laidLooks := .later }
def FnExactBookOfCardSaid : Prop := Claim7.holds Tryz.pinned (.plain (OpenSpec.ofChange fnExactBookOfSpec)) fnExactBookOfCard

/-- THE TIED CARD OF 'laws.FnExactBookPut'. -/
def fnExactBookPutCard : Claim7 := { stood := { row := fnExactBookPutRow, standIns := [], harness := (true, "7addb6edbeac9053f6e543b6a53f6ed72fe18f0cd9e4f2ff72d6720c29e49501"), looks := true }, kinds := [], alts := [], laidByText := true, laidKinds := [.data, .data, .data, .sentinel, .sentinel, .widerDeep], laidTests := true, laidLooks := .later }
def FnExactBookPutCardSaid : Prop := Claim7.holds Tryz.pinned (.plain (OpenSpec.ofChange fnExactBookPutSpec)) fnExactBookPutCard

/-- THE TIED CARD OF 'laws.FnExactBookIn'. -/
def fnExactBookInCard : Claim7 := { stood := { row := fnExactBookInRow, standIns := [], harness := (true, "7addb6edbeac9053f6e543b6a53f6ed72fe18f0cd9e4f2ff72d6720c29e49501"), looks := true }, kinds := [], alts := [], laidByText := true, laidKinds := [.data, .data, .data, .sentinel, .sentinel, .widerDeep], laidTests := true, laidLooks := .later }
def FnExactBookInCardSaid : Prop := Claim7.holds Tryz.pinned (.plain (OpenSpec.ofChange fnExactBookInSpec)) fnExactBookInCard

/-- THE TIED CARD OF 'laws.FnExactBookOut'. -/
def fnExactBookOutCard : Claim7 := { stood := { row := fnExactBookOutRow, standIns := [], harness := (true, "7addb6edbeac9053f6e543b6a53f6ed72fe18f0cd9e4f2ff72d6720c29e49501"), looks := true }, kinds := [], alts := [], laidByText := true, laidKinds := [.data, .data, .data, .sentinel, .sentinel, .widerDeep], laidTests := true, laidLooks := .later }
def FnExactBookOutCardSaid : Prop := Claim7.holds Tryz.pinned (.plain (OpenSpec.ofChange fnExactBookOutSpec)) fnExactBookOutCard

/-- THE SECOND FORM's CARD OF 'laws.FnMapProg'. -/
def fnMapProgUptoCard : Claim7 := { stood := { row := fnMapProgUptoRow, standIns := [], harness := (true, "7addb6edbeac9053f6e543b6a53f6ed72fe18f0cd9e4f2ff72d6720c29e49501"), looks := true }, kinds := [], alts := [], laidByText := true, laidKinds := [.data, .data, .data, .data, .sentinel, .sentinel, .widerDeep, .pinned], laidTests := true, laidLooks := .later }
def FnMapProgUptoCardSaid : Prop := Claim7.holds Tryz.pinned (.plain (OpenSpec.upto fnMapProgSpec)) fnMapProgUptoCard

/-- THE SECOND FORM's CARD OF 'laws.FnExactBareRead'. -/
def fnExactBareReadUptoCard : Claim7 := { stood := { row := fnExactBareReadUptoRow, standIns := [], harness := (true, "7addb6edbeac9053f6e543b6a53f6ed72fe18f0cd9e4f2ff72d6720c29e49501"), looks := true }, kinds := [], alts := [], laidByText := true, laidKinds := [.data, .data, .data, .sentinel, .sentinel, .widerDeep], laidTests := true, laidLooks := .later }
def FnExactBareReadUptoCardSaid : Prop := Claim7.holds Tryz.pinned (.plain (OpenSpec.upto fnExactBareReadSpec)) fnExactBareReadUptoCard

/-- THE SECOND FORM's CARD OF 'laws.FnExactBookOf'. -/
def fnExactBookOfUptoCard : Claim7 := { stood := { row := fnExactBookOfUptoRow, standIns := [], harness := (true, "7addb6edbeac9053f6e543b6a53f6ed72fe18f0cd9e4f2ff72d6720c29e49501"), looks := true }, kinds := [], alts := [], laidByText := true, laidKinds := [.data, .data, .data, .data, .sentinel, .sentinel, .widerDeep, .pinned], laidTests := true, laidLooks := .later }
def FnExactBookOfUptoCardSaid : Prop := Claim7.holds Tryz.pinned (.plain (OpenSpec.upto fnExactBookOfSpec)) fnExactBookOfUptoCard

/-- THE SECOND FORM's CARD OF 'laws.FnExactBookPut'. -/
def fnExactBookPutUptoCard : Claim7 := { stood := { row := fnExactBookPutUptoRow, standIns := [], harness := (true, "7addb6edbeac9053f6e543b6a53f6ed72fe18f0cd9e4f2ff72d6720c29e49501"), looks := true }, kinds := [], alts := [], laidByText := true, laidKinds := [.data, .data, .data, .sentinel, .sentinel, .widerDeep], laidTests := true, laidLooks := .later }
def FnExactBookPutUptoCardSaid : Prop := Claim7.holds Tryz.pinned (.plain (OpenSpec.upto fnExactBookPutSpec)) fnExactBookPutUptoCard

/-- THE SECOND FORM's CARD OF 'laws.FnExactBookIn'. -/
def fnExactBookInUptoCard : Claim7 := { stood := { row := fnExactBookInUptoRow, standIns := [], harness := (true, "7addb6edbeac9053f6e543b6a53f6ed72fe18f0cd9e4f2ff72d6720c29e49501"), looks := true }, kinds := [], alts := [], laidByText := true, laidKinds := [.data, .data, .data, .sentinel, .sentinel, .widerDeep], laidTests := true, laidLooks := .later }
def FnExactBookInUptoCardSaid : Prop := Claim7.holds Tryz.pinned (.plain (OpenSpec.upto fnExactBookInSpec)) fnExactBookInUptoCard

/-- THE SECOND FORM's CARD OF 'laws.FnExactBookOut'. -/
def fnExactBookOutUptoCard : Claim7 := { stood := { row := fnExactBookOutUptoRow, standIns := [], harness := (true, "7addb6edbeac9053f6e543b6a53f6ed72fe18f0cd9e4f2ff72d6720c29e49501"), looks := true }, kinds := [], alts := [], laidByText := true, laidKinds := [.data, .data, .data, .sentinel, .sentinel, .widerDeep], laidTests := true, laidLooks := .later }
def FnExactBookOutUptoCardSaid : Prop := Claim7.holds Tryz.pinned (.plain (OpenSpec.upto fnExactBookOutSpec)) fnExactBookOutUptoCard
end Rows
end Go.Proofs.YtefmbmafdgedmaaGreatDoor
