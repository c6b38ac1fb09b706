/-
  DERIVED. GIVEN WITH THE SEED: THE CARDS: each row of YthljacdbmhonfaaGreatDoorRows.lean that lists a variable, with what it lists TIED to the program's text (the seventh form; the later family's looks); each row that meets fmt, with fmt's text TOLD by the authors' own Lean function (tested against real Go, not proved from fmt's source: count such statements apart). THE CARD IS WHAT COUNTS. Prove the row's statement (the work); the ties are given (YthljacdbmhonfaaGreatDoorTie.lean); close each card by the builder's one call (the guide's Derived/Test/ToyasCard.lean, 'card_holds'). Laid BY PROGRAM, IN A SANDBOX (cutbox-door.mjs). By AI agents, Wed Nov 11 2026. No macro, syntax, notation, axiom, sorry.
-/
import Derived.Test.YthljacdbmhonfaaGreatDoorRows
import GoSem.ClaimSeven
namespace Go.Proofs.YthljacdbmhonfaaGreatDoor
namespace Rows

/-- THE TIED CARD OF 'laws.FnBareBent'. -/
def fnBareBentCard : Claim7 := { stood := { row := fnBareBentRow, standIns := [], harness := (true, "0520a2d9fdd7462867a2a519d213eae3c8e9c335fe8e90d359a73048e865ae7b"), looks := true }, kinds := [], alts := [], laidByText := true, laidKinds := [.data, .data, .data, .sentinel, .sentinel, .widerDeep], laidTests := true, laidLooks := .later }
def FnBareBentCardSaid : Prop := Claim7.holds Tryz.pinned (.plain (OpenSpec.ofChange fnBareBentSpec)) fnBareBentCard

/-- THE TIED CARD OF 'laws.FnExactBareText'. -/
def fnExactBareTextCard : Claim7 := { stood := { row := fnExactBareTextRow, standIns := [], harness := (true, "0520a2d9fdd7462867a2a519d213eae3c8e9c335fe8e90d359a73048e865ae7b"), looks := true }, kinds := [], alts := [], laidByText := true, laidKinds := [.data, .data, .data, .sentinel, .sentinel, .widerDeep], laidTests := true, laidLooks := .later }
def FnExactBareTextCardSaid : Prop := Claim7.holds Tryz.pinned (.plain (OpenSpec.ofChange fnExactBareTextSpec)) fnExactBareTextCard

/-- THE TIED CARD OF 'laws.FnBareCast'. -/
def fnBareCastCard : Claim7 := { stood := { row := fnBareCastRow, standIns := [], harness := (true, "0520a2d9fdd7462867a2a519d213eae3c8e9c335fe8e90d359a73048e865ae7b"), looks := true }, kinds := [], alts := [], laidByText := true, laidKinds := [.data, .data, .data, .sentinel, .sentinel, .widerDeep], laidTests := true, laidLooks := .later }
def FnBareCastCardSaid : Prop := Claim7.holds Tryz.pinned (.plain (OpenSpec.ofChange fnBareCastSpec)) fnBareCastCard

/-- THE TIED CARD OF 'laws.FnBareOf'. -/
def fnBareOfCard : Claim7 := { stood := { row := fnBareOfRow, standIns := [], harness := (true, "0520a2d9fdd7462867a2a519d213eae3c8e9c335fe8e90d359a73048e865ae7b"), looks := true }, kinds := [], alts := [], laidByText := true, laidKinds := [.data, .data, .data, .sentinel, .sentinel, .widerDeep], laidTests := true, laidLooks := .later }
def FnBareOfCardSaid : Prop := Claim7.holds Tryz.pinned (.plain (OpenSpec.ofChange fnBareOfSpec)) fnBareOfCard

/-- THE TIED CARD OF 'laws.FnEmitType'. -/
def fnEmitTypeCard : Claim7 := { stood := { row := fnEmitTypeRow, standIns := [], harness := (true, "0520a2d9fdd7462867a2a519d213eae3c8e9c335fe8e90d359a73048e865ae7b"), looks := true }, kinds := [], alts := [], laidByText := true, laidKinds := [.data, .data, .data, .sentinel, .sentinel, .widerDeep], laidTests := true, laidLooks := .later }
def FnEmitTypeCardSaid : Prop := Claim7.holds Tryz.pinned (.plain (OpenSpec.ofChange fnEmitTypeSpec)) fnEmitTypeCard

/-- THE TIED CARD OF 'laws.FnExactBareOf'. -/
def fnExactBareOfCard : Claim7 := { stood := { row := fnExactBareOfRow, standIns := [], harness := (true, "0520a2d9fdd7462867a2a519d213eae3c8e9c335fe8e90d359a73048e865ae7b"), looks := true }, kinds := [], alts := [], laidByText := true, laidKinds := [.data, .data, .data, .sentinel, .sentinel, .widerDeep], laidTests := true, laidLooks := .later }
def FnExactBareOfCardSaid : Prop := Claim7.holds Tryz.pinned (.plain (OpenSpec.ofChange fnExactBareOfSpec)) fnExactBareOfCard

/-- THE TIED CARD OF 'laws.FnEmitNames'. -/
def fnEmitNamesCard : Claim7 := { stood := { row := fnEmitNamesRow, standIns := [], harness := (true, "0520a2d9fdd7462867a2a519d213eae3c8e9c335fe8e90d359a73048e865ae7b"), looks := true }, kinds := [], alts := [], laidByText := true, laidKinds := [.data, .data, .data, .sentinel, .sentinel, .widerDeep], laidTests := true, laidLooks := .later }
def FnEmitNamesCardSaid : Prop := Claim7.holds Tryz.pinned (.plain (OpenSpec.ofChange fnEmitNamesSpec)) fnEmitNamesCard

/-- THE TIED CARD OF 'laws.FnEmit'. -/
def fnEmitCard : Claim7 := { stood := { row := fnEmitRow, standIns := [], harness := (true, "0520a2d9fdd7462867a2a519d213eae3c8e9c335fe8e90d359a73048e865ae7b"), looks := true }, kinds := [], alts := [], laidByText := true, laidKinds := [.data, .data, .data, .sentinel, .sentinel, .widerDeep], laidTests := true, laidLooks := .later }
def FnEmitCardSaid : Prop := Claim7.holds Tryz.pinned (.plain (OpenSpec.ofChange fnEmitSpec)) fnEmitCard

/-- THE TIED CARD OF 'laws.FnExactEmitLine'. -/
def fnExactEmitLineCard : Claim7 := { stood := { row := fnExactEmitLineRow, standIns := [], harness := (true, "0520a2d9fdd7462867a2a519d213eae3c8e9c335fe8e90d359a73048e865ae7b"), looks := true }, kinds := [], alts := [], laidByText := true, laidKinds := [.data, .data, .data, .sentinel, .sentinel, .widerDeep], laidTests := true, laidLooks := .later }
def FnExactEmitLineCardSaid : Prop := Claim7.holds Tryz.pinned (.plain (OpenSpec.ofChange fnExactEmitLineSpec)) fnExactEmitLineCard

/-- THE TIED CARD OF 'laws.FnExactEmitText'. -/
def fnExactEmitTextCard : Claim7 := { stood := { row := fnExactEmitTextRow, standIns := [], harness := (true, "0520a2d9fdd7462867a2a519d213eae3c8e9c335fe8e90d359a73048e865ae7b"), looks := true }, kinds := [], alts := [], laidByText := true, laidKinds := [.data, .data, .data, .sentinel, .sentinel, .widerDeep], laidTests := true, laidLooks := .later }
def FnExactEmitTextCardSaid : Prop := Claim7.holds Tryz.pinned (.plain (OpenSpec.ofChange fnExactEmitTextSpec)) fnExactEmitTextCard

/-- THE TIED CARD OF 'laws.FnBareCat'. -/
def fnBareCatCard : Claim7 := { stood := { row := fnBareCatRow, standIns := [], harness := (true, "0520a2d9fdd7462867a2a519d213eae3c8e9c335fe8e90d359a73048e865ae7b"), looks := true }, kinds := [], alts := [], laidByText := true, laidKinds := [.data, .data, .data, .sentinel, .sentinel, .widerDeep], laidTests := true, laidLooks := .later }
def FnBareCatCardSaid : Prop := Claim7.holds Tryz.pinned (.plain (OpenSpec.ofChange fnBareCatSpec)) fnBareCatCard

/-- THE TIED CARD OF 'laws.FnBareSame'. -/
def fnBareSameCard : Claim7 := { stood := { row := fnBareSameRow, standIns := [], harness := (true, "0520a2d9fdd7462867a2a519d213eae3c8e9c335fe8e90d359a73048e865ae7b"), looks := true }, kinds := [], alts := [], laidByText := true, laidKinds := [.data, .data, .data, .sentinel, .sentinel, .widerDeep], laidTests := true, laidLooks := .later }
def FnBareSameCardSaid : Prop := Claim7.holds Tryz.pinned (.plain (OpenSpec.ofChange fnBareSameSpec)) fnBareSameCard

/-- THE SECOND FORM's CARD OF 'laws.FnBareBent'. -/
def fnBareBentUptoCard : Claim7 := { stood := { row := fnBareBentUptoRow, standIns := [], harness := (true, "0520a2d9fdd7462867a2a519d213eae3c8e9c335fe8e90d359a73048e865ae7b"), looks := true }, kinds := [], alts := [], laidByText := true, laidKinds := [.data, .data, .data, .sentinel, .sentinel, .widerDeep], laidTests := true, laidLooks := .later }
def FnBareBentUptoCardSaid : Prop := Claim7.holds Tryz.pinned (.plain (OpenSpec.upto fnBareBentSpec)) fnBareBentUptoCard

/-- THE SECOND FORM's CARD OF 'laws.FnExactBareText'. -/
def fnExactBareTextUptoCard : Claim7 := { stood := { row := fnExactBareTextUptoRow, standIns := [], harness := (true, "0520a2d9fdd7462867a2a519d213eae3c8e9c335fe8e90d359a73048e865ae7b"), looks := true }, kinds := [], alts := [], laidByText := true, laidKinds := [.data, .data, .data, .sentinel, .sentinel, .widerDeep], laidTests := true, laidLooks := .later }
def FnExactBareTextUptoCardSaid : Prop := Claim7.holds Tryz.pinned (.plain (OpenSpec.upto fnExactBareTextSpec)) fnExactBareTextUptoCard

/-- THE SECOND FORM's CARD OF 'laws.FnBareCast'. -/
def fnBareCastUptoCard : Claim7 := { stood := { row := fnBareCastUptoRow, standIns := [], harness := (true, "0520a2d9fdd7462867a2a519d213eae3c8e9c335fe8e90d359a73048e865ae7b"), looks := true }, kinds := [], alts := [], laidByText := true, laidKinds := [.data, .data, .data, .sentinel, .sentinel, .widerDeep], laidTests := true, laidLooks := .later }
def FnBareCastUptoCardSaid : Prop := Claim7.holds Tryz.pinned (.plain (OpenSpec.upto fnBareCastSpec)) fnBareCastUptoCard

/-- THE SECOND FORM's CARD OF 'laws.FnBareOf'. -/
def fnBareOfUptoCard : Claim7 := { stood := { row := fnBareOfUptoRow, standIns := [], harness := (true, "0520a2d9fdd7462867a2a519d213eae3c8e9c335fe8e90d359a73048e865ae7b"), looks := true }, kinds := [], alts := [], laidByText := true, laidKinds := [.data, .data, .data, .sentinel, .sentinel, .widerDeep], laidTests := true, laidLooks := .later }
def FnBareOfUptoCardSaid : Prop := Claim7.holds Tryz.pinned (.plain (OpenSpec.upto fnBareOfSpec)) fnBareOfUptoCard

/-- THE SECOND FORM's CARD OF 'laws.FnEmitType'. -/
def fnEmitTypeUptoCard : Claim7 := { stood := { row := fnEmitTypeUptoRow, standIns := [], harness := (true, "0520a2d9fdd7462867a2a519d213eae3c8e9c335fe8e90d359a73048e865ae7b"), looks := true }, kinds := [], alts := [], laidByText := true, laidKinds := [.data, .data, .data, .sentinel, .sentinel, .widerDeep], laidTests := true, laidLooks := .later }
def FnEmitTypeUptoCardSaid : Prop := Claim7.holds Tryz.pinned (.plain (OpenSpec.upto fnEmitTypeSpec)) fnEmitTypeUptoCard

/-- THE SECOND FORM's CARD OF 'laws.FnExactBareOf'. -/
def fnExactBareOfUptoCard : Claim7 := { stood := { row := fnExactBareOfUptoRow, standIns := [], harness := (true, "0520a2d9fdd7462867a2a519d213eae3c8e9c335fe8e90d359a73048e865ae7b"), looks := true }, kinds := [], alts := [], laidByText := true, laidKinds := [.data, .data, .data, .sentinel, .sentinel, .widerDeep], laidTests := true, laidLooks := .later }
def FnExactBareOfUptoCardSaid : Prop := Claim7.holds Tryz.pinned (.plain (OpenSpec.upto fnExactBareOfSpec)) fnExactBareOfUptoCard

/-- THE SECOND FORM's CARD OF 'laws.FnEmitNames'. -/
def fnEmitNamesUptoCard : Claim7 := { stood := { row := fnEmitNamesUptoRow, standIns := [], harness := (true, "0520a2d9fdd7462867a2a519d213eae3c8e9c335fe8e90d359a73048e865ae7b"), looks := true }, kinds := [], alts := [], laidByText := true, laidKinds := [.data, .data, .data, .sentinel, .sentinel, .widerDeep], laidTests := true, laidLooks := .later }
def FnEmitNamesUptoCardSaid : Prop := Claim7.holds Tryz.pinned (.plain (OpenSpec.upto fnEmitNamesSpec)) fnEmitNamesUptoCard

/-- THE SECOND FORM's CARD OF 'laws.FnEmit'. -/
def fnEmitUptoCard : Claim7 := { stood := { row := fnEmitUptoRow, standIns := [], harness := (true, "0520a2d9fdd7462867a2a519d213eae3c8e9c335fe8e90d359a73048e865ae7b"), looks := true }, kinds := [], alts := [], laidByText := true, laidKinds := [.data, .data, .data, .sentinel, .sentinel, .widerDeep], laidTests := true, laidLooks := .later }
def FnEmitUptoCardSaid : Prop := Claim7.holds Tryz.pinned (.plain (OpenSpec.upto fnEmitSpec)) fnEmitUptoCard

/-- THE SECOND FORM's CARD OF 'laws.FnExactEmitLine'. -/
def fnExactEmitLineUptoCard : Claim7 := { stood := { row := fnExactEmitLineUptoRow, standIns := [], harness := (true, "0520a2d9fdd7462867a2a519d213eae3c8e9c335fe8e90d359a73048e865ae7b"), looks := true }, kinds := [], alts := [], laidByText := true, laidKinds := [.data, .data, .data, .sentinel, .sentinel, .widerDeep], laidTests := true, laidLooks := .later }
def FnExactEmitLineUptoCardSaid : Prop := Claim7.holds Tryz.pinned (.plain (OpenSpec.upto fnExactEmitLineSpec)) fnExactEmitLineUptoCard

/-- THE SECOND FORM's CARD OF 'laws.FnExactEmitText'. -/
def fnExactEmitTextUptoCard : Claim7 := { stood := { row := fnExactEmitTextUptoRow, standIns := [], harness := (true, "0520a2d9fdd7462867a2a519d213eae3c8e9c335fe8e90d359a73048e865ae7b"), looks := true }, kinds := [], alts := [], laidByText := true, laidKinds := [.data, .data, .data, .sentinel, .sentinel, .widerDeep], laidTests := true, laidLooks := .later }
def FnExactEmitTextUptoCardSaid : Prop := Claim7.holds Tryz.pinned (.plain (OpenSpec.upto fnExactEmitTextSpec)) fnExactEmitTextUptoCard

/-- THE SECOND FORM's CARD OF 'laws.FnBareCat'. -/
def fnBareCatUptoCard : Claim7 := { stood := { row := fnBareCatUptoRow, standIns := [], harness := (true, "0520a2d9fdd7462867a2a519d213eae3c8e9c335fe8e90d359a73048e865ae7b"), looks := true }, kinds := [], alts := [], laidByText := true, laidKinds := [.data, .data, .data, .sentinel, .sentinel, .widerDeep], laidTests := true, laidLooks := .later }
def FnBareCatUptoCardSaid : Prop := Claim7.holds Tryz.pinned (.plain (OpenSpec.upto fnBareCatSpec)) fnBareCatUptoCard

/-- THE SECOND FORM's CARD OF 'laws.FnBareSame'. -/
def fnBareSameUptoCard : Claim7 := { stood := { row := fnBareSameUptoRow, standIns := [], harness := (true, "0520a2d9fdd7462867a2a519d213eae3c8e9c335fe8e90d359a73048e865ae7b"), looks := true }, kinds := [], alts := [], laidByText := true, laidKinds := [.data, .data, .data, .sentinel, .sentinel, .widerDeep], laidTests := true, laidLooks := .later }
def FnBareSameUptoCardSaid : Prop := Claim7.holds Tryz.pinned (.plain (OpenSpec.upto fnBareSameSpec)) fnBareSameUptoCard
end Rows
end Go.Proofs.YthljacdbmhonfaaGreatDoor
