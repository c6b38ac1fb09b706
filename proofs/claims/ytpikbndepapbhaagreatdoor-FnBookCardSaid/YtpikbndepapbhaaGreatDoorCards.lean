/-
  DERIVED. GIVEN WITH THE SEED: THE CARDS: each row of YtpikbndepapbhaaGreatDoorRows.lean that lists a variable, with what it lists TIED to the program's text (the seventh form; the later family's looks); each row that meets fmt, with fmt's text TOLD by the authors' own Lean function (tested against real Go, not proved from fmt's source: count such statements apart). THE CARD IS WHAT COUNTS. Prove the row's statement (the work); the ties are given (YtpikbndepapbhaaGreatDoorTie.lean); close each card by the builder's one call (the guide's Derived/Test/ToyasCard.lean, 'card_holds'). Laid BY PROGRAM, IN A SANDBOX (cutbox-door.mjs). By AI agents, Wed Nov 11 2026. No macro, syntax, notation, axiom, sorry.
-/
import Derived.Test.YtpikbndepapbhaaGreatDoorRows
import GoSem.ClaimSeven
namespace Go.Proofs.YtpikbndepapbhaaGreatDoor
namespace Rows

/-- THE TIED CARD OF 'laws.FnBookAll'. -/
def fnBookAllCard : Claim7 := { stood := { row := fnBookAllRow, standIns := [], harness := (true, "2babf644e9e62fa95a3b99a5d45d00bd864fc961caa1d928099e128d55cf1c52"), looks := true }, kinds := [], alts := [], laidByText := true, laidKinds := [.data, .data, .data, .data, .sentinel, .sentinel, .widerDeep, .pinned], laidTests := true, laidLooks := .later }
def FnBookAllCardSaid : Prop := Claim7.holds Tryz.pinned (.plain (OpenSpec.ofChange fnBookAllSpec)) fnBookAllCard

/-- THE TIED CARD OF 'laws.FnBookTwo'. -/
def fnBookTwoCard : Claim7 := { stood := { row := fnBookTwoRow, standIns := [], harness := (true, "2babf644e9e62fa95a3b99a5d45d00bd864fc961caa1d928099e128d55cf1c52"), looks := true }, kinds := [], alts := [], laidByText := true, laidKinds := [.data, .data, .data, .sentinel, .sentinel, .widerDeep], laidTests := true, laidLooks := .later }
def FnBookTwoCardSaid : Prop := Claim7.holds Tryz.pinned (.plain (OpenSpec.ofChange fnBookTwoSpec)) fnBookTwoCard

/-- THE TIED CARD OF 'laws.FnBookSame'. -/
def fnBookSameCard : Claim7 := { stood := { row := fnBookSameRow, standIns := [], harness := (true, "2babf644e9e62fa95a3b99a5d45d00bd864fc961caa1d928099e128d55cf1c52"), looks := true }, kinds := [], alts := [], laidByText := true, laidKinds := [.data, .data, .data, .sentinel, .sentinel, .widerDeep], laidTests := true, laidLooks := .later }
def FnBookSameCardSaid : Prop := Claim7.holds Tryz.pinned (.plain (OpenSpec.ofChange fnBookSameSpec)) fnBookSameCard

/-- THE TIED CARD OF 'laws.FnBookBack'. -/
def fnBookBackCard : Claim7 := { stood := { row := fnBookBackRow, standIns := [], harness := (true, "2babf644e9e62fa95a3b99a5d45d00bd864fc961caa1d928099e128d55cf1c52"), looks := true }, kinds := [], alts := [], laidByText := true, laidKinds := [.data, .data, .data, .sentinel, .sentinel, .widerDeep], laidTests := true, laidLooks := .later }
def FnBookBackCardSaid : Prop := Claim7.holds Tryz.pinned (.plain (OpenSpec.ofChange fnBookBackSpec)) fnBookBackCard

/-- THE TIED CARD OF 'laws.FnBookStuck'. -/
def fnBookStuckCard : Claim7 := { stood := { row := fnBookStuckRow, standIns := [], harness := (true, "2babf644e9e62fa95a3b99a5d45d00bd864fc961caa1d928099e128d55cf1c52"), looks := true }, kinds := [], alts := [], laidByText := true, laidKinds := [.data, .data, .data, .sentinel, .sentinel, .widerDeep], laidTests := true, laidLooks := .later }
def FnBookStuckCardSaid : Prop := Claim7.holds Tryz.pinned (.plain (OpenSpec.ofChange fnBookStuckSpec)) fnBookStuckCard

/-- THE TIED CARD OF 'laws.FnBookShift'. -/
def fnBookShiftCard : Claim7 := { stood := { row := fnBookShiftRow, standIns := [], harness := (true, "2babf644e9e62fa95a3b99a5d45d00bd864fc961caa1d928099e128d55cf1c52"), looks := true }, kinds := [], alts := [], laidByText := true, laidKinds := [.data, .data, .data, .sentinel, .sentinel, .widerDeep], laidTests := true, laidLooks := .later }
def FnBookShiftCardSaid : Prop := Claim7.holds Tryz.pinned (.plain (OpenSpec.ofChange fnBookShiftSpec)) fnBookShiftCard

/-- THE TIED CARD OF 'laws.FnBookAdd'. -/
def fnBookAddCard : Claim7 := { stood := { row := fnBookAddRow, standIns := [], harness := (true, "2babf644e9e62fa95a3b99a5d45d00bd864fc961caa1d928099e128d55cf1c52"), looks := true }, kinds := [], alts := [], laidByText := true, laidKinds := [.data, .data, .data, .data, .sentinel, .sentinel, .widerDeep, .pinned], laidTests := true, laidLooks := .later }
def FnBookAddCardSaid : Prop := Claim7.holds Tryz.pinned (.plain (OpenSpec.ofChange fnBookAddSpec)) fnBookAddCard

/-- THE TIED CARD OF 'laws.FnBook'. -/
def fnBookCard : Claim7 := { stood := { row := fnBookRow, standIns := [], harness := (true, "2babf644e9e62fa95a3b99a5d45d00bd864fc961caa1d928099e128d55cf1c52"), looks := true }, kinds := [], alts := [], laidByText := true, laidKinds := [.data, .data, .data, .data, .sentinel, .sentinel, .widerDeep, .pinned], laidTests := true, laidLooks := .later }
def FnBookCardSaid : Prop := Claim7.holds Tryz.pinned (.plain (OpenSpec.ofChange fnBookSpec)) fnBookCard

/-- THE TIED CARD OF 'laws.FnBookBent'. -/
def fnBookBentCard : Claim7 := { stood := { row := fnBookBentRow, standIns := [], harness := (true, "2babf644e9e62fa95a3b99a5d45d00bd864fc961caa1d928099e128d55cf1c52"), looks := true }, kinds := [], alts := [], laidByText := true, laidKinds := [.data, .data, .data, .sentinel, .sentinel, .widerDeep], laidTests := true, laidLooks := .later }
def FnBookBentCardSaid : Prop := Claim7.holds Tryz.pinned (.plain (OpenSpec.ofChange fnBookBentSpec)) fnBookBentCard

/-- THE SECOND FORM's CARD OF 'laws.FnBookAll'. -/
def fnBookAllUptoCard : Claim7 := { stood := { row := fnBookAllUptoRow, standIns := [], harness := (true, "2babf644e9e62fa95a3b99a5d45d00bd864fc961caa1d928099e128d55cf1c52"), looks := true }, kinds := [], alts := [], laidByText := true, laidKinds := [.data, .data, .data, .data, .sentinel, .sentinel, .widerDeep, .pinned], laidTests := true, laidLooks := .later }
def FnBookAllUptoCardSaid : Prop := Claim7.holds Tryz.pinned (.plain (OpenSpec.upto fnBookAllSpec)) fnBookAllUptoCard

/-- THE SECOND FORM's CARD OF 'laws.FnBookTwo'. -/
def fnBookTwoUptoCard : Claim7 := { stood := { row := fnBookTwoUptoRow, standIns := [], harness := (true, "2babf644e9e62fa95a3b99a5d45d00bd864fc961caa1d928099e128d55cf1c52"), looks := true }, kinds := [], alts := [], laidByText := true, laidKinds := [.data, .data, .data, .sentinel, .sentinel, .widerDeep], laidTests := true, laidLooks := .later }
def FnBookTwoUptoCardSaid : Prop := Claim7.holds Tryz.pinned (.plain (OpenSpec.upto fnBookTwoSpec)) fnBookTwoUptoCard

/-- THE SECOND FORM's CARD OF 'laws.FnBookSame'. -/
def fnBookSameUptoCard : Claim7 := { stood := { row := fnBookSameUptoRow, standIns := [], harness := (true, "2babf644e9e62fa95a3b99a5d45d00bd864fc961caa1d928099e128d55cf1c52"), looks := true }, kinds := [], alts := [], laidByText := true, laidKinds := [.data, .data, .data, .sentinel, .sentinel, .widerDeep], laidTests := true, laidLooks := .later }
def FnBookSameUptoCardSaid : Prop := Claim7.holds Tryz.pinned (.plain (OpenSpec.upto fnBookSameSpec)) fnBookSameUptoCard

/-- THE SECOND FORM's CARD OF 'laws.FnBookBack'. -/
def fnBookBackUptoCard : Claim7 := { stood := { row := fnBookBackUptoRow, standIns := [], harness := (true, "2babf644e9e62fa95a3b99a5d45d00bd864fc961caa1d928099e128d55cf1c52"), looks := true }, kinds := [], alts := [], laidByText := true, laidKinds := [.data, .data, .data, .sentinel, .sentinel, .widerDeep], laidTests := true, laidLooks := .later }
def FnBookBackUptoCardSaid : Prop := Claim7.holds Tryz.pinned (.plain (OpenSpec.upto fnBookBackSpec)) fnBookBackUptoCard

/-- THE SECOND FORM's CARD OF 'laws.FnBookStuck'. -/
def fnBookStuckUptoCard : Claim7 := { stood := { row := fnBookStuckUptoRow, standIns := [], harness := (true, "2babf644e9e62fa95a3b99a5d45d00bd864fc961caa1d928099e128d55cf1c52"), looks := true }, kinds := [], alts := [], laidByText := true, laidKinds := [.data, .data, .data, .sentinel, .sentinel, .widerDeep], laidTests := true, laidLooks := .later }
def FnBookStuckUptoCardSaid : Prop := Claim7.holds Tryz.pinned (.plain (OpenSpec.upto fnBookStuckSpec)) fnBookStuckUptoCard

/-- THE SECOND FORM's CARD OF 'laws.FnBookShift'. -/
def fnBookShiftUptoCard : Claim7 := { stood := { row := fnBookShiftUptoRow, standIns := [], harness := (true, "2babf644e9e62fa95a3b99a5d45d00bd864fc961caa1d928099e128d55cf1c52"), looks := true }, kinds := [], alts := [], laidByText := true, laidKinds := [.data, .data, .data, .sentinel, .sentinel, .widerDeep], laidTests := true, laidLooks := .later }
def FnBookShiftUptoCardSaid : Prop := Claim7.holds Tryz.pinned (.plain (OpenSpec.upto fnBookShiftSpec)) fnBookShiftUptoCard

/-- THE SECOND FORM's CARD OF 'laws.FnBookAdd'. -/
def fnBookAddUptoCard : Claim7 := { stood := { row := fnBookAddUptoRow, standIns := [], harness := (true, "2babf644e9e62fa95a3b99a5d45d00bd864fc961caa1d928099e128d55cf1c52"), looks := true }, kinds := [], alts := [], laidByText := true, laidKinds := [.data, .data, .data, .data, .sentinel, .sentinel, .widerDeep, .pinned], laidTests := true, laidLooks := .later }
def FnBookAddUptoCardSaid : Prop := Claim7.holds Tryz.pinned (.plain (OpenSpec.upto fnBookAddSpec)) fnBookAddUptoCard

/-- THE SECOND FORM's CARD OF 'laws.FnBook'. -/
def fnBookUptoCard : Claim7 := { stood := { row := fnBookUptoRow, standIns := [], harness := (true, "2babf644e9e62fa95a3b99a5d45d00bd864fc961caa1d928099e128d55cf1c52"), looks := true }, kinds := [], alts := [], laidByText := true, laidKinds := [.data, .data, .data, .data, .sentinel, .sentinel, .widerDeep, .pinned], laidTests := true, laidLooks := .later }
def FnBookUptoCardSaid : Prop := Claim7.holds Tryz.pinned (.plain (OpenSpec.upto fnBookSpec)) fnBookUptoCard

/-- THE SECOND FORM's CARD OF 'laws.FnBookBent'. -/
def fnBookBentUptoCard : Claim7 := { stood := { row := fnBookBentUptoRow, standIns := [], harness := (true, "2babf644e9e62fa95a3b99a5d45d00bd864fc961caa1d928099e128d55cf1c52"), looks := true }, kinds := [], alts := [], laidByText := true, laidKinds := [.data, .data, .data, .sentinel, .sentinel, .widerDeep], laidTests := true, laidLooks := .later }
def FnBookBentUptoCardSaid : Prop := Claim7.holds Tryz.pinned (.plain (OpenSpec.upto fnBookBentSpec)) fnBookBentUptoCard
end Rows
end Go.Proofs.YtpikbndepapbhaaGreatDoor
