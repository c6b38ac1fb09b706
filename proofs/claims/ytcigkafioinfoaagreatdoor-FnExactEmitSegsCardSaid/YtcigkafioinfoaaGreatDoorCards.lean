/-
  DERIVED. GIVEN WITH THE SEED: THE CARDS: each row of YtcigkafioinfoaaGreatDoorRows.lean that lists a variable, with what it lists TIED to the program's text (the seventh form; the later family's looks); each row that meets fmt, with fmt's text TOLD by the authors' own Lean function (tested against real Go, not proved from fmt's source: count such statements apart). THE CARD IS WHAT COUNTS. Prove the row's statement (the work); the ties are given (YtcigkafioinfoaaGreatDoorTie.lean); close each card by the builder's one call (the guide's Derived/Test/ToyasCard.lean, 'card_holds'). Laid BY PROGRAM, IN A SANDBOX (cutbox-door.mjs). By AI agents, Wed Nov 11 2026. No macro, syntax, notation, axiom, sorry.
-/
import Derived.Test.YtcigkafioinfoaaGreatDoorRows
import GoSem.ClaimSeven
namespace Go.Proofs.YtcigkafioinfoaaGreatDoor
namespace Rows

/-- THE TIED CARD OF 'laws.FnBookRun'. -/
def fnBookRunCard : Claim7 := { stood := { row := fnBookRunRow, standIns := [], harness := (true, "3b61f87f0888579ed5c8d7ab4d54c3f42198c4481f608d37bf427c6df0104f69"), looks := true }, kinds := [], alts := [], laidByText := true, laidKinds := [.data, .data, .data, .data, .sentinel, .sentinel, .widerDeep, .pinned], laidTests := true, laidLooks := .later }
def FnBookRunCardSaid : Prop := Claim7.holds Tryz.pinned (.plain (OpenSpec.ofChange fnBookRunSpec)) fnBookRunCard

/-- THE TIED CARD OF 'laws.FnExactEmitLine'. -/
def fnExactEmitLineCard : Claim7 := { stood := { row := fnExactEmitLineRow, standIns := [], harness := (true, "3b61f87f0888579ed5c8d7ab4d54c3f42198c4481f608d37bf427c6df0104f69"), looks := true }, kinds := [], alts := [], laidByText := true, laidKinds := [.data, .data, .data, .sentinel, .sentinel, .widerDeep], laidTests := true, laidLooks := .later }
def FnExactEmitLineCardSaid : Prop := Claim7.holds Tryz.pinned (.plain (OpenSpec.ofChange fnExactEmitLineSpec)) fnExactEmitLineCard

/-- THE TIED CARD OF 'laws.FnExactBareRun'. -/
def fnExactBareRunCard : Claim7 := { stood := { row := fnExactBareRunRow, standIns := [], harness := (true, "3b61f87f0888579ed5c8d7ab4d54c3f42198c4481f608d37bf427c6df0104f69"), looks := true }, kinds := [], alts := [], laidByText := true, laidKinds := [.data, .data, .data, .sentinel, .sentinel, .widerDeep], laidTests := true, laidLooks := .later }
def FnExactBareRunCardSaid : Prop := Claim7.holds Tryz.pinned (.plain (OpenSpec.ofChange fnExactBareRunSpec)) fnExactBareRunCard

/-- THE TIED CARD OF 'laws.FnExactEmitSegs'. -/
def fnExactEmitSegsCard : Claim7 := { stood := { row := fnExactEmitSegsRow, standIns := [], harness := (true, "3b61f87f0888579ed5c8d7ab4d54c3f42198c4481f608d37bf427c6df0104f69"), looks := true }, kinds := [], alts := [], laidByText := true, laidKinds := [.data, .data, .data, .sentinel, .sentinel, .widerDeep], laidTests := true, laidLooks := .later }
def FnExactEmitSegsCardSaid : Prop := Claim7.holds Tryz.pinned (.plain (OpenSpec.ofChange fnExactEmitSegsSpec)) fnExactEmitSegsCard

/-- THE TIED CARD OF 'laws.FnExactBookBad'. -/
def fnExactBookBadCard : Claim7 := { stood := { row := fnExactBookBadRow, standIns := [], harness := (true, "3b61f87f0888579ed5c8d7ab4d54c3f42198c4481f608d37bf427c6df0104f69"), looks := true }, kinds := [], alts := [], laidByText := true, laidKinds := [.data, .data, .data, .sentinel, .sentinel, .widerDeep], laidTests := true, laidLooks := .later }
def FnExactBookBadCardSaid : Prop := Claim7.holds Tryz.pinned (.plain (OpenSpec.ofChange fnExactBookBadSpec)) fnExactBookBadCard

/-- THE TIED CARD OF 'laws.FnExactBookSegs'. -/
def fnExactBookSegsCard : Claim7 := { stood := { row := fnExactBookSegsRow, standIns := [], harness := (true, "3b61f87f0888579ed5c8d7ab4d54c3f42198c4481f608d37bf427c6df0104f69"), looks := true }, kinds := [], alts := [], laidByText := true, laidKinds := [.data, .data, .data, .sentinel, .sentinel, .widerDeep], laidTests := true, laidLooks := .later }
def FnExactBookSegsCardSaid : Prop := Claim7.holds Tryz.pinned (.plain (OpenSpec.ofChange fnExactBookSegsSpec)) fnExactBookSegsCard

/-- THE TIED CARD OF 'laws.FnExactBareOf'. -/
def fnExactBareOfCard : Claim7 := { stood := { row := fnExactBareOfRow, standIns := [], harness := (true, "3b61f87f0888579ed5c8d7ab4d54c3f42198c4481f608d37bf427c6df0104f69"), looks := true }, kinds := [], alts := [], laidByText := true, laidKinds := [.data, .data, .data, .sentinel, .sentinel, .widerDeep], laidTests := true, laidLooks := .later }
def FnExactBareOfCardSaid : Prop := Claim7.holds Tryz.pinned (.plain (OpenSpec.ofChange fnExactBareOfSpec)) fnExactBareOfCard

/-- THE TIED CARD OF 'laws.FnMapProg'. -/
def fnMapProgCard : Claim7 := { stood := { row := fnMapProgRow, standIns := [], harness := (true, "3b61f87f0888579ed5c8d7ab4d54c3f42198c4481f608d37bf427c6df0104f69"), looks := true }, kinds := [], alts := [], laidByText := true, laidKinds := [.data, .data, .data, .data, .sentinel, .sentinel, .widerDeep, .pinned], laidTests := true, laidLooks := .later }
def FnMapProgCardSaid : Prop := Claim7.holds Tryz.pinned (.plain (OpenSpec.ofChange fnMapProgSpec)) fnMapProgCard

/-- THE SECOND FORM's CARD OF 'laws.FnBookRun'. -/
def fnBookRunUptoCard : Claim7 := { stood := { row := fnBookRunUptoRow, standIns := [], harness := (true, "3b61f87f0888579ed5c8d7ab4d54c3f42198c4481f608d37bf427c6df0104f69"), looks := true }, kinds := [], alts := [], laidByText := true, laidKinds := [.data, .data, .data, .data, .sentinel, .sentinel, .widerDeep, .pinned], laidTests := true, laidLooks := .later }
def FnBookRunUptoCardSaid : Prop := Claim7.holds Tryz.pinned (.plain (OpenSpec.upto fnBookRunSpec)) fnBookRunUptoCard

/-- THE SECOND FORM's CARD OF 'laws.FnExactEmitLine'. -/
def fnExactEmitLineUptoCard : Claim7 := { stood := { row := fnExactEmitLineUptoRow, standIns := [], harness := (true, "3b61f87f0888579ed5c8d7ab4d54c3f42198c4481f608d37bf427c6df0104f69"), looks := true }, kinds := [], alts := [], laidByText := true, laidKinds := [.data, .data, .data, .sentinel, .sentinel, .widerDeep], laidTests := true, laidLooks := .later }
def FnExactEmitLineUptoCardSaid : Prop := Claim7.holds Tryz.pinned (.plain (OpenSpec.upto fnExactEmitLineSpec)) fnExactEmitLineUptoCard

/-- THE SECOND FORM's CARD OF 'laws.FnExactBareRun'. -/
def fnExactBareRunUptoCard : Claim7 := { stood := { row := fnExactBareRunUptoRow, standIns := [], harness := (true, "3b61f87f0888579ed5c8d7ab4d54c3f42198c4481f608d37bf427c6df0104f69"), looks := true }, kinds := [], alts := [], laidByText := true, laidKinds := [.data, .data, .data, .sentinel, .sentinel, .widerDeep], laidTests := true, laidLooks := .later }
def FnExactBareRunUptoCardSaid : Prop := Claim7.holds Tryz.pinned (.plain (OpenSpec.upto fnExactBareRunSpec)) fnExactBareRunUptoCard

/-- THE SECOND FORM's CARD OF 'laws.FnExactEmitSegs'. -/
def fnExactEmitSegsUptoCard : Claim7 := { stood := { row := fnExactEmitSegsUptoRow, standIns := [], harness := (true, "3b61f87f0888579ed5c8d7ab4d54c3f42198c4481f608d37bf427c6df0104f69"), looks := true }, kinds := [], alts := [], laidByText := true, laidKinds := [.data, .data, .data, .sentinel, .sentinel, .widerDeep], laidTests := true, laidLooks := .later }
def FnExactEmitSegsUptoCardSaid : Prop := Claim7.holds Tryz.pinned (.plain (OpenSpec.upto fnExactEmitSegsSpec)) fnExactEmitSegsUptoCard

/-- THE SECOND FORM's CARD OF 'laws.FnExactBookBad'. -/
def fnExactBookBadUptoCard : Claim7 := { stood := { row := fnExactBookBadUptoRow, standIns := [], harness := (true, "3b61f87f0888579ed5c8d7ab4d54c3f42198c4481f608d37bf427c6df0104f69"), looks := true }, kinds := [], alts := [], laidByText := true, laidKinds := [.data, .data, .data, .sentinel, .sentinel, .widerDeep], laidTests := true, laidLooks := .later }
def FnExactBookBadUptoCardSaid : Prop := Claim7.holds Tryz.pinned (.plain (OpenSpec.upto fnExactBookBadSpec)) fnExactBookBadUptoCard

/-- THE SECOND FORM's CARD OF 'laws.FnExactBookSegs'. -/
def fnExactBookSegsUptoCard : Claim7 := { stood := { row := fnExactBookSegsUptoRow, standIns := [], harness := (true, "3b61f87f0888579ed5c8d7ab4d54c3f42198c4481f608d37bf427c6df0104f69"), looks := true }, kinds := [], alts := [], laidByText := true, laidKinds := [.data, .data, .data, .sentinel, .sentinel, .widerDeep], laidTests := true, laidLooks := .later }
def FnExactBookSegsUptoCardSaid : Prop := Claim7.holds Tryz.pinned (.plain (OpenSpec.upto fnExactBookSegsSpec)) fnExactBookSegsUptoCard

/-- THE SECOND FORM's CARD OF 'laws.FnExactBareOf'. -/
def fnExactBareOfUptoCard : Claim7 := { stood := { row := fnExactBareOfUptoRow, standIns := [], harness := (true, "3b61f87f0888579ed5c8d7ab4d54c3f42198c4481f608d37bf427c6df0104f69"), looks := true }, kinds := [], alts := [], laidByText := true, laidKinds := [.data, .data, .data, .sentinel, .sentinel, .widerDeep], laidTests := true, laidLooks := .later }
def FnExactBareOfUptoCardSaid : Prop := Claim7.holds Tryz.pinned (.plain (OpenSpec.upto fnExactBareOfSpec)) fnExactBareOfUptoCard

/-- THE SECOND FORM's CARD OF 'laws.FnMapProg'. -/
def fnMapProgUptoCard : Claim7 := { stood := { row := fnMapProgUptoRow, standIns := [], harness := (true, "3b61f87f0888579ed5c8d7ab4d54c3f42198c4481f608d37bf427c6df0104f69"), looks := true }, kinds := [], alts := [], laidByText := true, laidKinds := [.data, .data, .data, .data, .sentinel, .sentinel, .widerDeep, .pinned], laidTests := true, laidLooks := .later }
def FnMapProgUptoCardSaid : Prop := Claim7.holds Tryz.pinned (.plain (OpenSpec.upto fnMapProgSpec)) fnMapProgUptoCard
end Rows
end Go.Proofs.YtcigkafioinfoaaGreatDoor
