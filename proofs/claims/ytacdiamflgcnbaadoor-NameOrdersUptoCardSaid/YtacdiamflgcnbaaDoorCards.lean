/-
  DERIVED. GIVEN WITH THE SEED: THE CARDS: each row of YtacdiamflgcnbaaDoorRows.lean that lists a variable, with what it lists TIED to the program's text (the seventh form; the later family's looks); each row that meets fmt, with fmt's text TOLD by the authors' own Lean function (tested against real Go, not proved from fmt's source: count such statements apart). THE CARD IS WHAT COUNTS. Prove the row's statement (the work); the ties are given (YtacdiamflgcnbaaDoorTie.lean); close each card by the builder's one call (the guide's Derived/Test/ToyasCard.lean, 'card_holds'). Laid BY PROGRAM, IN A SANDBOX (cutbox-door.mjs). By AI agents, Wed Nov 11 2026. No macro, syntax, notation, axiom, sorry.
-/
import Derived.Test.YtacdiamflgcnbaaDoorRows
import GoSem.ClaimSeven
namespace Go.Proofs.YtacdiamflgcnbaaDoor
namespace Rows

/-- THE TIED CARD OF 'flintlaw2.NameWords'. -/
def nameWordsCard : Claim7 := { stood := { row := nameWordsRow, standIns := [], harness := (true, "8678155da2ffce0fe3dd7282d1ffb1232cdc0f2dbf943c5033586cecf08c2605"), looks := false }, kinds := [], alts := [], laidByText := true, laidKinds := [.data, .pinned], laidTests := true, laidLooks := .later }
def NameWordsCardSaid : Prop := Claim7.holds Tryd.pinned (.plain (OpenSpec.ofChange nameWordsSpec)) nameWordsCard

/-- THE TIED CARD OF 'flintlaw2.NameFolds'. -/
def nameFoldsCard : Claim7 := { stood := { row := nameFoldsRow, standIns := [], harness := (true, "8678155da2ffce0fe3dd7282d1ffb1232cdc0f2dbf943c5033586cecf08c2605"), looks := false }, kinds := [], alts := [], laidByText := true, laidKinds := [.data, .pinned], laidTests := true, laidLooks := .later }
def NameFoldsCardSaid : Prop := Claim7.holds Tryd.pinned (.plain (OpenSpec.ofChange nameFoldsSpec)) nameFoldsCard

/-- THE TIED CARD OF 'flintlaw2.NameRunes'. -/
def nameRunesCard : Claim7 := { stood := { row := nameRunesRow, standIns := [], harness := (true, "8678155da2ffce0fe3dd7282d1ffb1232cdc0f2dbf943c5033586cecf08c2605"), looks := false }, kinds := [], alts := [], laidByText := true, laidKinds := [.data, .pinned], laidTests := true, laidLooks := .later }
def NameRunesCardSaid : Prop := Claim7.holds Tryd.pinned (.plain (OpenSpec.ofChange nameRunesSpec)) nameRunesCard

/-- THE TIED CARD OF 'flintlaw2.NameUnlike'. -/
def nameUnlikeCard : Claim7 := { stood := { row := nameUnlikeRow, standIns := [], harness := (true, "8678155da2ffce0fe3dd7282d1ffb1232cdc0f2dbf943c5033586cecf08c2605"), looks := false }, kinds := [], alts := [], laidByText := true, laidKinds := [.data, .pinned], laidTests := true, laidLooks := .later }
def NameUnlikeCardSaid : Prop := Claim7.holds Tryd.pinned (.plain (OpenSpec.ofChange nameUnlikeSpec)) nameUnlikeCard

/-- THE TIED CARD OF 'flintlaw2.NameKeys'. -/
def nameKeysCard : Claim7 := { stood := { row := nameKeysRow, standIns := [], harness := (true, "8678155da2ffce0fe3dd7282d1ffb1232cdc0f2dbf943c5033586cecf08c2605"), looks := false }, kinds := [], alts := [], laidByText := true, laidKinds := [.data, .pinned], laidTests := true, laidLooks := .later }
def NameKeysCardSaid : Prop := Claim7.holds Tryd.pinned (.plain (OpenSpec.ofChange nameKeysSpec)) nameKeysCard

/-- THE TIED CARD OF 'flintlaw2.NameQuotes'. -/
def nameQuotesCard : Claim7 := { stood := { row := nameQuotesRow, standIns := [], harness := (true, "8678155da2ffce0fe3dd7282d1ffb1232cdc0f2dbf943c5033586cecf08c2605"), looks := false }, kinds := [], alts := [], laidByText := true, laidKinds := [.data, .pinned], laidTests := true, laidLooks := .later }
def NameQuotesCardSaid : Prop := Claim7.holds Tryd.pinned (.plain (OpenSpec.ofChange nameQuotesSpec)) nameQuotesCard

/-- THE TIED CARD OF 'flintlaw2.NameOrders'. -/
def nameOrdersCard : Claim7 := { stood := { row := nameOrdersRow, standIns := [], harness := (true, "8678155da2ffce0fe3dd7282d1ffb1232cdc0f2dbf943c5033586cecf08c2605"), looks := false }, kinds := [], alts := [], laidByText := true, laidKinds := [.data, .pinned], laidTests := true, laidLooks := .later }
def NameOrdersCardSaid : Prop := Claim7.holds Tryd.pinned (.plain (OpenSpec.ofChange nameOrdersSpec)) nameOrdersCard

/-- THE SECOND FORM's CARD OF 'flintlaw2.NameWords'. -/
def nameWordsUptoCard : Claim7 := { stood := { row := nameWordsUptoRow, standIns := [], harness := (true, "8678155da2ffce0fe3dd7282d1ffb1232cdc0f2dbf943c5033586cecf08c2605"), looks := false }, kinds := [], alts := [], laidByText := true, laidKinds := [.data, .pinned], laidTests := true, laidLooks := .later }
def NameWordsUptoCardSaid : Prop := Claim7.holds Tryd.pinned (.plain (OpenSpec.upto nameWordsSpec)) nameWordsUptoCard

/-- THE SECOND FORM's CARD OF 'flintlaw2.NameFolds'. -/
def nameFoldsUptoCard : Claim7 := { stood := { row := nameFoldsUptoRow, standIns := [], harness := (true, "8678155da2ffce0fe3dd7282d1ffb1232cdc0f2dbf943c5033586cecf08c2605"), looks := false }, kinds := [], alts := [], laidByText := true, laidKinds := [.data, .pinned], laidTests := true, laidLooks := .later }
def NameFoldsUptoCardSaid : Prop := Claim7.holds Tryd.pinned (.plain (OpenSpec.upto nameFoldsSpec)) nameFoldsUptoCard

/-- THE SECOND FORM's CARD OF 'flintlaw2.NameRunes'. -/
def nameRunesUptoCard : Claim7 := { stood := { row := nameRunesUptoRow, standIns := [], harness := (true, "8678155da2ffce0fe3dd7282d1ffb1232cdc0f2dbf943c5033586cecf08c2605"), looks := false }, kinds := [], alts := [], laidByText := true, laidKinds := [.data, .pinned], laidTests := true, laidLooks := .later }
def NameRunesUptoCardSaid : Prop := Claim7.holds Tryd.pinned (.plain (OpenSpec.upto nameRunesSpec)) nameRunesUptoCard

/-- THE SECOND FORM's CARD OF 'flintlaw2.NameUnlike'. -/
def nameUnlikeUptoCard : Claim7 := { stood := { row := nameUnlikeUptoRow, standIns := [], harness := (true, "8678155da2ffce0fe3dd7282d1ffb1232cdc0f2dbf943c5033586cecf08c2605"), looks := false }, kinds := [], alts := [], laidByText := true, laidKinds := [.data, .pinned], laidTests := true, laidLooks := .later }
def NameUnlikeUptoCardSaid : Prop := Claim7.holds Tryd.pinned (.plain (OpenSpec.upto nameUnlikeSpec)) nameUnlikeUptoCard

/-- THE SECOND FORM's CARD OF 'flintlaw2.NameKeys'. -/
def nameKeysUptoCard : Claim7 := { stood := { row := nameKeysUptoRow, standIns := [], harness := (true, "8678155da2ffce0fe3dd7282d1ffb1232cdc0f2dbf943c5033586cecf08c2605"), looks := false }, kinds := [], alts := [], laidByText := true, laidKinds := [.data, .pinned], laidTests := true, laidLooks := .later }
def NameKeysUptoCardSaid : Prop := Claim7.holds Tryd.pinned (.plain (OpenSpec.upto nameKeysSpec)) nameKeysUptoCard

/-- THE SECOND FORM's CARD OF 'flintlaw2.NameQuotes'. -/
def nameQuotesUptoCard : Claim7 := { stood := { row := nameQuotesUptoRow, standIns := [], harness := (true, "8678155da2ffce0fe3dd7282d1ffb1232cdc0f2dbf943c5033586cecf08c2605"), looks := false }, kinds := [], alts := [], laidByText := true, laidKinds := [.data, .pinned], laidTests := true, laidLooks := .later }
def NameQuotesUptoCardSaid : Prop := Claim7.holds Tryd.pinned (.plain (OpenSpec.upto nameQuotesSpec)) nameQuotesUptoCard

/-- THE SECOND FORM's CARD OF 'flintlaw2.NameOrders'. -/
def nameOrdersUptoCard : Claim7 := { stood := { row := nameOrdersUptoRow, standIns := [], harness := (true, "8678155da2ffce0fe3dd7282d1ffb1232cdc0f2dbf943c5033586cecf08c2605"), looks := false }, kinds := [], alts := [], laidByText := true, laidKinds := [.data, .pinned], laidTests := true, laidLooks := .later }
def NameOrdersUptoCardSaid : Prop := Claim7.holds Tryd.pinned (.plain (OpenSpec.upto nameOrdersSpec)) nameOrdersUptoCard
end Rows
end Go.Proofs.YtacdiamflgcnbaaDoor
