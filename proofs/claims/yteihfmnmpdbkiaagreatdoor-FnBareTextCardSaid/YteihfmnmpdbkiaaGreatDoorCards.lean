/-
  DERIVED. GIVEN WITH THE SEED: THE CARDS: each row of YteihfmnmpdbkiaaGreatDoorRows.lean that lists a variable, with what it lists TIED to the program's text (the seventh form; the later family's looks); each row that meets fmt, with fmt's text TOLD by the authors' own Lean function (tested against real Go, not proved from fmt's source: count such statements apart). THE CARD IS WHAT COUNTS. Prove the row's statement (the work); the ties are given (YteihfmnmpdbkiaaGreatDoorTie.lean); close each card by the builder's one call (the guide's Derived/Test/ToyasCard.lean, 'card_holds'). Laid BY PROGRAM, IN A SANDBOX (cutbox-door.mjs). By AI agents, Wed Nov 11 2026. No macro, syntax, notation, axiom, sorry.
-/
import Derived.Test.YteihfmnmpdbkiaaGreatDoorRows
import GoSem.ClaimSeven
namespace Go.Proofs.YteihfmnmpdbkiaaGreatDoor
namespace Rows

/-- THE TIED CARD OF 'laws.FnEmitNone'. -/
def fnEmitNoneCard : Claim7 := { stood := { row := fnEmitNoneRow, standIns := [], harness := (true, "0e8ba0477f0cffc74bab5bde4861b59c65e47f59af3013e1b35c514f55f60c5e"), looks := true }, kinds := [], alts := [], laidByText := true, laidKinds := [.data, .data, .data, .data, .sentinel, .sentinel, .widerDeep, .pinned], laidTests := true, laidLooks := .later }
def FnEmitNoneCardSaid : Prop := Claim7.holds Tryz.pinned (.plain (OpenSpec.ofChange fnEmitNoneSpec)) fnEmitNoneCard

/-- THE TIED CARD OF 'laws.FnEmitCat'. -/
def fnEmitCatCard : Claim7 := { stood := { row := fnEmitCatRow, standIns := [], harness := (true, "0e8ba0477f0cffc74bab5bde4861b59c65e47f59af3013e1b35c514f55f60c5e"), looks := true }, kinds := [], alts := [], laidByText := true, laidKinds := [.data, .data, .data, .sentinel, .sentinel, .widerDeep], laidTests := true, laidLooks := .later }
def FnEmitCatCardSaid : Prop := Claim7.holds Tryz.pinned (.plain (OpenSpec.ofChange fnEmitCatSpec)) fnEmitCatCard

/-- THE TIED CARD OF 'laws.FnEmitPut'. -/
def fnEmitPutCard : Claim7 := { stood := { row := fnEmitPutRow, standIns := [], harness := (true, "0e8ba0477f0cffc74bab5bde4861b59c65e47f59af3013e1b35c514f55f60c5e"), looks := true }, kinds := [], alts := [], laidByText := true, laidKinds := [.data, .data, .data, .data, .sentinel, .sentinel, .widerDeep, .pinned], laidTests := true, laidLooks := .later }
def FnEmitPutCardSaid : Prop := Claim7.holds Tryz.pinned (.plain (OpenSpec.ofChange fnEmitPutSpec)) fnEmitPutCard

/-- THE TIED CARD OF 'laws.FnEmitText'. -/
def fnEmitTextCard : Claim7 := { stood := { row := fnEmitTextRow, standIns := [], harness := (true, "0e8ba0477f0cffc74bab5bde4861b59c65e47f59af3013e1b35c514f55f60c5e"), looks := true }, kinds := [], alts := [], laidByText := true, laidKinds := [.data, .data, .data, .data, .sentinel, .sentinel, .widerDeep, .pinned], laidTests := true, laidLooks := .later }
def FnEmitTextCardSaid : Prop := Claim7.holds Tryz.pinned (.plain (OpenSpec.ofChange fnEmitTextSpec)) fnEmitTextCard

/-- THE TIED CARD OF 'laws.FnMapProg'. -/
def fnMapProgCard : Claim7 := { stood := { row := fnMapProgRow, standIns := [], harness := (true, "0e8ba0477f0cffc74bab5bde4861b59c65e47f59af3013e1b35c514f55f60c5e"), looks := true }, kinds := [], alts := [], laidByText := true, laidKinds := [.data, .data, .data, .data, .sentinel, .sentinel, .widerDeep, .pinned], laidTests := true, laidLooks := .later }
def FnMapProgCardSaid : Prop := Claim7.holds Tryz.pinned (.plain (OpenSpec.ofChange fnMapProgSpec)) fnMapProgCard

/-- THE TIED CARD OF 'laws.FnEmitSay'. -/
def fnEmitSayCard : Claim7 := { stood := { row := fnEmitSayRow, standIns := [], harness := (true, "0e8ba0477f0cffc74bab5bde4861b59c65e47f59af3013e1b35c514f55f60c5e"), looks := true }, kinds := [], alts := [], laidByText := true, laidKinds := [.data, .data, .data, .data, .sentinel, .sentinel, .widerDeep, .pinned], laidTests := true, laidLooks := .later }
def FnEmitSayCardSaid : Prop := Claim7.holds Tryz.pinned (.plain (OpenSpec.ofChange fnEmitSaySpec)) fnEmitSayCard

/-- THE TIED CARD OF 'laws.FnBare'. -/
def fnBareCard : Claim7 := { stood := { row := fnBareRow, standIns := [], harness := (true, "0e8ba0477f0cffc74bab5bde4861b59c65e47f59af3013e1b35c514f55f60c5e"), looks := true }, kinds := [], alts := [], laidByText := true, laidKinds := [.data, .data, .data, .data, .sentinel, .sentinel, .widerDeep, .pinned], laidTests := true, laidLooks := .later }
def FnBareCardSaid : Prop := Claim7.holds Tryz.pinned (.plain (OpenSpec.ofChange fnBareSpec)) fnBareCard

/-- THE TIED CARD OF 'laws.FnBareText'. -/
def fnBareTextCard : Claim7 := { stood := { row := fnBareTextRow, standIns := [], harness := (true, "0e8ba0477f0cffc74bab5bde4861b59c65e47f59af3013e1b35c514f55f60c5e"), looks := true }, kinds := [], alts := [], laidByText := true, laidKinds := [.data, .data, .data, .sentinel, .sentinel, .widerDeep], laidTests := true, laidLooks := .later }
def FnBareTextCardSaid : Prop := Claim7.holds Tryz.pinned (.plain (OpenSpec.ofChange fnBareTextSpec)) fnBareTextCard

/-- THE TIED CARD OF 'laws.FnExactBareAll'. -/
def fnExactBareAllCard : Claim7 := { stood := { row := fnExactBareAllRow, standIns := [], harness := (true, "0e8ba0477f0cffc74bab5bde4861b59c65e47f59af3013e1b35c514f55f60c5e"), looks := true }, kinds := [], alts := [], laidByText := true, laidKinds := [.data, .data, .data, .data, .sentinel, .sentinel, .widerDeep, .pinned], laidTests := true, laidLooks := .later }
def FnExactBareAllCardSaid : Prop := Claim7.holds Tryz.pinned (.plain (OpenSpec.ofChange fnExactBareAllSpec)) fnExactBareAllCard

/-- THE TIED CARD OF 'laws.FnExactPageOf'. -/
def fnExactPageOfCard : Claim7 := { stood := { row := fnExactPageOfRow, standIns := [], harness := (true, "0e8ba0477f0cffc74bab5bde4861b59c65e47f59af3013e1b35c514f55f60c5e"), looks := true }, kinds := [], alts := [], laidByText := true, laidKinds := [.data, .data, .data, .sentinel, .sentinel, .widerDeep], laidTests := true, laidLooks := .later }
def FnExactPageOfCardSaid : Prop := Claim7.holds Tryz.pinned (.plain (OpenSpec.ofChange fnExactPageOfSpec)) fnExactPageOfCard

/-- THE TIED CARD OF 'laws.FnPage'. -/
def fnPageCard : Claim7 := { stood := { row := fnPageRow, standIns := [], harness := (true, "0e8ba0477f0cffc74bab5bde4861b59c65e47f59af3013e1b35c514f55f60c5e"), looks := true }, kinds := [], alts := [], laidByText := true, laidKinds := [.data, .data, .data, .sentinel, .sentinel, .widerDeep], laidTests := true, laidLooks := .later }
def FnPageCardSaid : Prop := Claim7.holds Tryz.pinned (.plain (OpenSpec.ofChange fnPageSpec)) fnPageCard

/-- THE TIED CARD OF 'laws.FnBareRun'. -/
def fnBareRunCard : Claim7 := { stood := { row := fnBareRunRow, standIns := [], harness := (true, "0e8ba0477f0cffc74bab5bde4861b59c65e47f59af3013e1b35c514f55f60c5e"), looks := true }, kinds := [], alts := [], laidByText := true, laidKinds := [.data, .data, .data, .data, .sentinel, .sentinel, .widerDeep, .pinned], laidTests := true, laidLooks := .later }
def FnBareRunCardSaid : Prop := Claim7.holds Tryz.pinned (.plain (OpenSpec.ofChange fnBareRunSpec)) fnBareRunCard

/-- THE SECOND FORM's CARD OF 'laws.FnEmitNone'. -/
def fnEmitNoneUptoCard : Claim7 := { stood := { row := fnEmitNoneUptoRow, standIns := [], harness := (true, "0e8ba0477f0cffc74bab5bde4861b59c65e47f59af3013e1b35c514f55f60c5e"), looks := true }, kinds := [], alts := [], laidByText := true, laidKinds := [.data, .data, .data, .data, .sentinel, .sentinel, .widerDeep, .pinned], laidTests := true, laidLooks := .later }
def FnEmitNoneUptoCardSaid : Prop := Claim7.holds Tryz.pinned (.plain (OpenSpec.upto fnEmitNoneSpec)) fnEmitNoneUptoCard

/-- THE SECOND FORM's CARD OF 'laws.FnEmitCat'. -/
def fnEmitCatUptoCard : Claim7 := { stood := { row := fnEmitCatUptoRow, standIns := [], harness := (true, "0e8ba0477f0cffc74bab5bde4861b59c65e47f59af3013e1b35c514f55f60c5e"), looks := true }, kinds := [], alts := [], laidByText := true, laidKinds := [.data, .data, .data, .sentinel, .sentinel, .widerDeep], laidTests := true, laidLooks := .later }
def FnEmitCatUptoCardSaid : Prop := Claim7.holds Tryz.pinned (.plain (OpenSpec.upto fnEmitCatSpec)) fnEmitCatUptoCard

/-- THE SECOND FORM's CARD OF 'laws.FnEmitPut'. -/
def fnEmitPutUptoCard : Claim7 := { stood := { row := fnEmitPutUptoRow, standIns := [], harness := (true, "0e8ba0477f0cffc74bab5bde4861b59c65e47f59af3013e1b35c514f55f60c5e"), looks := true }, kinds := [], alts := [], laidByText := true, laidKinds := [.data, .data, .data, .data, .sentinel, .sentinel, .widerDeep, .pinned], laidTests := true, laidLooks := .later }
def FnEmitPutUptoCardSaid : Prop := Claim7.holds Tryz.pinned (.plain (OpenSpec.upto fnEmitPutSpec)) fnEmitPutUptoCard

/-- THE SECOND FORM's CARD OF 'laws.FnEmitText'. -/
def fnEmitTextUptoCard : Claim7 := { stood := { row := fnEmitTextUptoRow, standIns := [], harness := (true, "0e8ba0477f0cffc74bab5bde4861b59c65e47f59af3013e1b35c514f55f60c5e"), looks := true }, kinds := [], alts := [], laidByText := true, laidKinds := [.data, .data, .data, .data, .sentinel, .sentinel, .widerDeep, .pinned], laidTests := true, laidLooks := .later }
def FnEmitTextUptoCardSaid : Prop := Claim7.holds Tryz.pinned (.plain (OpenSpec.upto fnEmitTextSpec)) fnEmitTextUptoCard

/-- THE SECOND FORM's CARD OF 'laws.FnMapProg'. -/
def fnMapProgUptoCard : Claim7 := { stood := { row := fnMapProgUptoRow, standIns := [], harness := (true, "0e8ba0477f0cffc74bab5bde4861b59c65e47f59af3013e1b35c514f55f60c5e"), looks := true }, kinds := [], alts := [], laidByText := true, laidKinds := [.data, .data, .data, .data, .sentinel, .sentinel, .widerDeep, .pinned], laidTests := true, laidLooks := .later }
def FnMapProgUptoCardSaid : Prop := Claim7.holds Tryz.pinned (.plain (OpenSpec.upto fnMapProgSpec)) fnMapProgUptoCard

/-- THE SECOND FORM's CARD OF 'laws.FnEmitSay'. -/
def fnEmitSayUptoCard : Claim7 := { stood := { row := fnEmitSayUptoRow, standIns := [], harness := (true, "0e8ba0477f0cffc74bab5bde4861b59c65e47f59af3013e1b35c514f55f60c5e"), looks := true }, kinds := [], alts := [], laidByText := true, laidKinds := [.data, .data, .data, .data, .sentinel, .sentinel, .widerDeep, .pinned], laidTests := true, laidLooks := .later }
def FnEmitSayUptoCardSaid : Prop := Claim7.holds Tryz.pinned (.plain (OpenSpec.upto fnEmitSaySpec)) fnEmitSayUptoCard

/-- THE SECOND FORM's CARD OF 'laws.FnBare'. -/
def fnBareUptoCard : Claim7 := { stood := { row := fnBareUptoRow, standIns := [], harness := (true, "0e8ba0477f0cffc74bab5bde4861b59c65e47f59af3013e1b35c514f55f60c5e"), looks := true }, kinds := [], alts := [], laidByText := true, laidKinds := [.data, .data, .data, .data, .sentinel, .sentinel, .widerDeep, .pinned], laidTests := true, laidLooks := .later }
def FnBareUptoCardSaid : Prop := Claim7.holds Tryz.pinned (.plain (OpenSpec.upto fnBareSpec)) fnBareUptoCard

/-- THE SECOND FORM's CARD OF 'laws.FnBareText'. -/
def fnBareTextUptoCard : Claim7 := { stood := { row := fnBareTextUptoRow, standIns := [], harness := (true, "0e8ba0477f0cffc74bab5bde4861b59c65e47f59af3013e1b35c514f55f60c5e"), looks := true }, kinds := [], alts := [], laidByText := true, laidKinds := [.data, .data, .data, .sentinel, .sentinel, .widerDeep], laidTests := true, laidLooks := .later }
def FnBareTextUptoCardSaid : Prop := Claim7.holds Tryz.pinned (.plain (OpenSpec.upto fnBareTextSpec)) fnBareTextUptoCard

/-- THE SECOND FORM's CARD OF 'laws.FnExactBareAll'. -/
def fnExactBareAllUptoCard : Claim7 := { stood := { row := fnExactBareAllUptoRow, standIns := [], harness := (true, "0e8ba0477f0cffc74bab5bde4861b59c65e47f59af3013e1b35c514f55f60c5e"), looks := true }, kinds := [], alts := [], laidByText := true, laidKinds := [.data, .data, .data, .data, .sentinel, .sentinel, .widerDeep, .pinned], laidTests := true, laidLooks := .later }
def FnExactBareAllUptoCardSaid : Prop := Claim7.holds Tryz.pinned (.plain (OpenSpec.upto fnExactBareAllSpec)) fnExactBareAllUptoCard

/-- THE SECOND FORM's CARD OF 'laws.FnExactPageOf'. -/
def fnExactPageOfUptoCard : Claim7 := { stood := { row := fnExactPageOfUptoRow, standIns := [], harness := (true, "0e8ba0477f0cffc74bab5bde4861b59c65e47f59af3013e1b35c514f55f60c5e"), looks := true }, kinds := [], alts := [], laidByText := true, laidKinds := [.data, .data, .data, .sentinel, .sentinel, .widerDeep], laidTests := true, laidLooks := .later }
def FnExactPageOfUptoCardSaid : Prop := Claim7.holds Tryz.pinned (.plain (OpenSpec.upto fnExactPageOfSpec)) fnExactPageOfUptoCard

/-- THE SECOND FORM's CARD OF 'laws.FnPage'. -/
def fnPageUptoCard : Claim7 := { stood := { row := fnPageUptoRow, standIns := [], harness := (true, "0e8ba0477f0cffc74bab5bde4861b59c65e47f59af3013e1b35c514f55f60c5e"), looks := true }, kinds := [], alts := [], laidByText := true, laidKinds := [.data, .data, .data, .sentinel, .sentinel, .widerDeep], laidTests := true, laidLooks := .later }
def FnPageUptoCardSaid : Prop := Claim7.holds Tryz.pinned (.plain (OpenSpec.upto fnPageSpec)) fnPageUptoCard

/-- THE SECOND FORM's CARD OF 'laws.FnBareRun'. -/
def fnBareRunUptoCard : Claim7 := { stood := { row := fnBareRunUptoRow, standIns := [], harness := (true, "0e8ba0477f0cffc74bab5bde4861b59c65e47f59af3013e1b35c514f55f60c5e"), looks := true }, kinds := [], alts := [], laidByText := true, laidKinds := [.data, .data, .data, .data, .sentinel, .sentinel, .widerDeep, .pinned], laidTests := true, laidLooks := .later }
def FnBareRunUptoCardSaid : Prop := Claim7.holds Tryz.pinned (.plain (OpenSpec.upto fnBareRunSpec)) fnBareRunUptoCard
end Rows
end Go.Proofs.YteihfmnmpdbkiaaGreatDoor
