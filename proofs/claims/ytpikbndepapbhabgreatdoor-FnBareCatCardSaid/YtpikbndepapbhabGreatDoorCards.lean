/-
  DERIVED. GIVEN WITH THE SEED: THE CARDS: each row of YtpikbndepapbhabGreatDoorRows.lean that lists a variable, with what it lists TIED to the program's text (the seventh form; the later family's looks); each row that meets fmt, with fmt's text TOLD by the authors' own Lean function (tested against real Go, not proved from fmt's source: count such statements apart). THE CARD IS WHAT COUNTS. Prove the row's statement (the work); the ties are given (YtpikbndepapbhabGreatDoorTie.lean); close each card by the builder's one call (the guide's Derived/Test/ToyasCard.lean, 'card_holds'). Laid BY PROGRAM, IN A SANDBOX (cutbox-door.mjs). By AI agents, Wed Nov 11 2026. No macro, syntax, notation, axiom, sorry.
-/
import Derived.Test.YtpikbndepapbhabGreatDoorRows
import GoSem.ClaimSeven
namespace Go.Proofs.YtpikbndepapbhabGreatDoor
namespace Rows

/-- THE TIED CARD OF 'laws.FnBareRun'. -/
def fnBareRunCard : Claim7 := { stood := { row := fnBareRunRow, standIns := [], harness := (true, "6b6dc4f281d91a1700c78a69e3876cbb34e3248cf5233aab4d189b0cfe17917e"), looks := true }, kinds := [], alts := [], laidByText := true, laidKinds := [.data, .data, .data, .data, .sentinel, .sentinel, .widerDeep, .pinned], laidTests := true, laidLooks := .later }
def FnBareRunCardSaid : Prop := Claim7.holds Tryz.pinned (.plain (OpenSpec.ofChange fnBareRunSpec)) fnBareRunCard

/-- THE TIED CARD OF 'laws.FnBareText'. -/
def fnBareTextCard : Claim7 := { stood := { row := fnBareTextRow, standIns := [], harness := (true, "6b6dc4f281d91a1700c78a69e3876cbb34e3248cf5233aab4d189b0cfe17917e"), looks := true }, kinds := [], alts := [], laidByText := true, laidKinds := [.data, .data, .data, .sentinel, .sentinel, .widerDeep], laidTests := true, laidLooks := .later }
def FnBareTextCardSaid : Prop := Claim7.holds Tryz.pinned (.plain (OpenSpec.ofChange fnBareTextSpec)) fnBareTextCard

/-- THE TIED CARD OF 'laws.FnExactBareAll'. -/
def fnExactBareAllCard : Claim7 := { stood := { row := fnExactBareAllRow, standIns := [], harness := (true, "6b6dc4f281d91a1700c78a69e3876cbb34e3248cf5233aab4d189b0cfe17917e"), looks := true }, kinds := [], alts := [], laidByText := true, laidKinds := [.data, .data, .data, .data, .sentinel, .sentinel, .widerDeep, .pinned], laidTests := true, laidLooks := .later }
def FnExactBareAllCardSaid : Prop := Claim7.holds Tryz.pinned (.plain (OpenSpec.ofChange fnExactBareAllSpec)) fnExactBareAllCard

/-- THE TIED CARD OF 'laws.FnExactPageOf'. -/
def fnExactPageOfCard : Claim7 := { stood := { row := fnExactPageOfRow, standIns := [], harness := (true, "6b6dc4f281d91a1700c78a69e3876cbb34e3248cf5233aab4d189b0cfe17917e"), looks := true }, kinds := [], alts := [], laidByText := true, laidKinds := [.data, .data, .data, .sentinel, .sentinel, .widerDeep], laidTests := true, laidLooks := .later }
def FnExactPageOfCardSaid : Prop := Claim7.holds Tryz.pinned (.plain (OpenSpec.ofChange fnExactPageOfSpec)) fnExactPageOfCard

/-- THE TIED CARD OF 'laws.FnPage'. -/
def fnPageCard : Claim7 := { stood := { row := fnPageRow, standIns := [], harness := (true, "6b6dc4f281d91a1700c78a69e3876cbb34e3248cf5233aab4d189b0cfe17917e"), looks := true }, kinds := [], alts := [], laidByText := true, laidKinds := [.data, .data, .data, .sentinel, .sentinel, .widerDeep], laidTests := true, laidLooks := .later }
def FnPageCardSaid : Prop := Claim7.holds Tryz.pinned (.plain (OpenSpec.ofChange fnPageSpec)) fnPageCard

/-- THE TIED CARD OF 'laws.FnBareCat'. -/
def fnBareCatCard : Claim7 := { stood := { row := fnBareCatRow, standIns := [], harness := (true, "6b6dc4f281d91a1700c78a69e3876cbb34e3248cf5233aab4d189b0cfe17917e"), looks := true }, kinds := [], alts := [], laidByText := true, laidKinds := [.data, .data, .data, .sentinel, .sentinel, .widerDeep], laidTests := true, laidLooks := .later }
def FnBareCatCardSaid : Prop := Claim7.holds Tryz.pinned (.plain (OpenSpec.ofChange fnBareCatSpec)) fnBareCatCard

/-- THE TIED CARD OF 'laws.FnExactBookOk'. -/
def fnExactBookOkCard : Claim7 := { stood := { row := fnExactBookOkRow, standIns := [], harness := (true, "6b6dc4f281d91a1700c78a69e3876cbb34e3248cf5233aab4d189b0cfe17917e"), looks := true }, kinds := [], alts := [], laidByText := true, laidKinds := [.data, .data, .data, .sentinel, .sentinel, .widerDeep], laidTests := true, laidLooks := .later }
def FnExactBookOkCardSaid : Prop := Claim7.holds Tryz.pinned (.plain (OpenSpec.ofChange fnExactBookOkSpec)) fnExactBookOkCard

/-- THE TIED CARD OF 'laws.FnExactBookBare'. -/
def fnExactBookBareCard : Claim7 := { stood := { row := fnExactBookBareRow, standIns := [], harness := (true, "6b6dc4f281d91a1700c78a69e3876cbb34e3248cf5233aab4d189b0cfe17917e"), looks := true }, kinds := [], alts := [], laidByText := true, laidKinds := [.data, .data, .data, .sentinel, .sentinel, .widerDeep], laidTests := true, laidLooks := .later }
def FnExactBookBareCardSaid : Prop := Claim7.holds Tryz.pinned (.plain (OpenSpec.ofChange fnExactBookBareSpec)) fnExactBookBareCard

/-- THE TIED CARD OF 'laws.FnExactBookText'. -/
def fnExactBookTextCard : Claim7 := { stood := { row := fnExactBookTextRow, standIns := [], harness := (true, "6b6dc4f281d91a1700c78a69e3876cbb34e3248cf5233aab4d189b0cfe17917e"), looks := true }, kinds := [], alts := [], laidByText := true, laidKinds := [.data, .data, .data, .sentinel, .sentinel, .widerDeep], laidTests := true, laidLooks := .later }
def FnExactBookTextCardSaid : Prop := Claim7.holds Tryz.pinned (.plain (OpenSpec.ofChange fnExactBookTextSpec)) fnExactBookTextCard

/-- THE SECOND FORM's CARD OF 'laws.FnBareRun'. -/
def fnBareRunUptoCard : Claim7 := { stood := { row := fnBareRunUptoRow, standIns := [], harness := (true, "6b6dc4f281d91a1700c78a69e3876cbb34e3248cf5233aab4d189b0cfe17917e"), looks := true }, kinds := [], alts := [], laidByText := true, laidKinds := [.data, .data, .data, .data, .sentinel, .sentinel, .widerDeep, .pinned], laidTests := true, laidLooks := .later }
def FnBareRunUptoCardSaid : Prop := Claim7.holds Tryz.pinned (.plain (OpenSpec.upto fnBareRunSpec)) fnBareRunUptoCard

/-- THE SECOND FORM's CARD OF 'laws.FnBareText'. -/
def fnBareTextUptoCard : Claim7 := { stood := { row := fnBareTextUptoRow, standIns := [], harness := (true, "6b6dc4f281d91a1700c78a69e3876cbb34e3248cf5233aab4d189b0cfe17917e"), looks := true }, kinds := [], alts := [], laidByText := true, laidKinds := [.data, .data, .data, .sentinel, .sentinel, .widerDeep], laidTests := true, laidLooks := .later }
def FnBareTextUptoCardSaid : Prop := Claim7.holds Tryz.pinned (.plain (OpenSpec.upto fnBareTextSpec)) fnBareTextUptoCard

/-- THE SECOND FORM's CARD OF 'laws.FnExactBareAll'. -/
def fnExactBareAllUptoCard : Claim7 := { stood := { row := fnExactBareAllUptoRow, standIns := [], harness := (true, "6b6dc4f281d91a1700c78a69e3876cbb34e3248cf5233aab4d189b0cfe17917e"), looks := true }, kinds := [], alts := [], laidByText := true, laidKinds := [.data, .data, .data, .data, .sentinel, .sentinel, .widerDeep, .pinned], laidTests := true, laidLooks := .later }
def FnExactBareAllUptoCardSaid : Prop := Claim7.holds Tryz.pinned (.plain (OpenSpec.upto fnExactBareAllSpec)) fnExactBareAllUptoCard

/-- THE SECOND FORM's CARD OF 'laws.FnExactPageOf'. -/
def fnExactPageOfUptoCard : Claim7 := { stood := { row := fnExactPageOfUptoRow, standIns := [], harness := (true, "6b6dc4f281d91a1700c78a69e3876cbb34e3248cf5233aab4d189b0cfe17917e"), looks := true }, kinds := [], alts := [], laidByText := true, laidKinds := [.data, .data, .data, .sentinel, .sentinel, .widerDeep], laidTests := true, laidLooks := .later }
def FnExactPageOfUptoCardSaid : Prop := Claim7.holds Tryz.pinned (.plain (OpenSpec.upto fnExactPageOfSpec)) fnExactPageOfUptoCard

/-- THE SECOND FORM's CARD OF 'laws.FnPage'. -/
def fnPageUptoCard : Claim7 := { stood := { row := fnPageUptoRow, standIns := [], harness := (true, "6b6dc4f281d91a1700c78a69e3876cbb34e3248cf5233aab4d189b0cfe17917e"), looks := true }, kinds := [], alts := [], laidByText := true, laidKinds := [.data, .data, .data, .sentinel, .sentinel, .widerDeep], laidTests := true, laidLooks := .later }
def FnPageUptoCardSaid : Prop := Claim7.holds Tryz.pinned (.plain (OpenSpec.upto fnPageSpec)) fnPageUptoCard

/-- THE SECOND FORM's CARD OF 'laws.FnBareCat'. -/
def fnBareCatUptoCard : Claim7 := { stood := { row := fnBareCatUptoRow, standIns := [], harness := (true, "6b6dc4f281d91a1700c78a69e3876cbb34e3248cf5233aab4d189b0cfe17917e"), looks := true }, kinds := [], alts := [], laidByText := true, laidKinds := [.data, .data, .data, .sentinel, .sentinel, .widerDeep], laidTests := true, laidLooks := .later }
def FnBareCatUptoCardSaid : Prop := Claim7.holds Tryz.pinned (.plain (OpenSpec.upto fnBareCatSpec)) fnBareCatUptoCard

/-- THE SECOND FORM's CARD OF 'laws.FnExactBookOk'. -/
def fnExactBookOkUptoCard : Claim7 := { stood := { row := fnExactBookOkUptoRow, standIns := [], harness := (true, "6b6dc4f281d91a1700c78a69e3876cbb34e3248cf5233aab4d189b0cfe17917e"), looks := true }, kinds := [], alts := [], laidByText := true, laidKinds := [.data, .data, .data, .sentinel, .sentinel, .widerDeep], laidTests := true, laidLooks := .later }
def FnExactBookOkUptoCardSaid : Prop := Claim7.holds Tryz.pinned (.plain (OpenSpec.upto fnExactBookOkSpec)) fnExactBookOkUptoCard

/-- THE SECOND FORM's CARD OF 'laws.FnExactBookBare'. -/
def fnExactBookBareUptoCard : Claim7 := { stood := { row := fnExactBookBareUptoRow, standIns := [], harness := (true, "6b6dc4f281d91a1700c78a69e3876cbb34e3248cf5233aab4d189b0cfe17917e"), looks := true }, kinds := [], alts := [], laidByText := true, laidKinds := [.data, .data, .data, .sentinel, .sentinel, .widerDeep], laidTests := true, laidLooks := .later }
def FnExactBookBareUptoCardSaid : Prop := Claim7.holds Tryz.pinned (.plain (OpenSpec.upto fnExactBookBareSpec)) fnExactBookBareUptoCard

/-- THE SECOND FORM's CARD OF 'laws.FnExactBookText'. -/
def fnExactBookTextUptoCard : Claim7 := { stood := { row := fnExactBookTextUptoRow, standIns := [], harness := (true, "6b6dc4f281d91a1700c78a69e3876cbb34e3248cf5233aab4d189b0cfe17917e"), looks := true }, kinds := [], alts := [], laidByText := true, laidKinds := [.data, .data, .data, .sentinel, .sentinel, .widerDeep], laidTests := true, laidLooks := .later }
def FnExactBookTextUptoCardSaid : Prop := Claim7.holds Tryz.pinned (.plain (OpenSpec.upto fnExactBookTextSpec)) fnExactBookTextUptoCard
end Rows
end Go.Proofs.YtpikbndepapbhabGreatDoor
