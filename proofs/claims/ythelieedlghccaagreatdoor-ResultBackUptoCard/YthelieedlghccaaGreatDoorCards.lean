/-
  DERIVED. GIVEN WITH THE SEED: THE CARDS: each row of YthelieedlghccaaGreatDoorRows.lean that lists a variable, with what it lists TIED to the program's text (the seventh form; the later family's looks); each row that meets fmt, with fmt's text TOLD by the authors' own Lean function (tested against real Go, not proved from fmt's source: count such statements apart). THE CARD IS WHAT COUNTS. Prove the row's statement (the work); the ties are given (YthelieedlghccaaGreatDoorTie.lean); close each card by the builder's one call (the guide's Derived/Test/ToyasCard.lean, 'card_holds'). Laid BY PROGRAM, IN A SANDBOX (cutbox-door.mjs). By AI agents, Wed Nov 11 2026. No macro, syntax, notation, axiom, sorry.
-/
import Derived.Test.YthelieedlghccaaGreatDoorRows
import GoSem.ClaimSeven
namespace Go.Proofs.YthelieedlghccaaGreatDoor
namespace Rows

/-- THE TIED CARD OF 'ramblelaw02.ValueOrder'. -/
def valueOrderCard : Claim7 := { stood := { row := valueOrderRow, standIns := [], harness := (true, "7d35628917360a4a9ebdd5d3d5d01ff2946477191f65eed36f31f9402af88842"), looks := true }, kinds := [], alts := [], laidByText := true, laidKinds := [.data, .data, .data, .sentinel, .sentinel], laidTests := true, laidLooks := .later }
def ValueOrderCardSaid : Prop := Claim7.holds Tryz.pinned (.plain (OpenSpec.ofChange valueOrderSpec)) valueOrderCard

/-- THE TIED CARD OF 'ramblelaw02.ValueBack'. -/
def valueBackCard : Claim7 := { stood := { row := valueBackRow, standIns := [], harness := (true, "7d35628917360a4a9ebdd5d3d5d01ff2946477191f65eed36f31f9402af88842"), looks := true }, kinds := [], alts := [], laidByText := true, laidKinds := [.data, .data, .data, .sentinel, .sentinel], laidTests := true, laidLooks := .later }
def ValueBackCardSaid : Prop := Claim7.holds Tryz.pinned (.plain (OpenSpec.ofChange valueBackSpec)) valueBackCard

/-- THE TIED CARD OF 'ramblelaw02.ValueMaps'. -/
def valueMapsCard : Claim7 := { stood := { row := valueMapsRow, standIns := [], harness := (true, "7d35628917360a4a9ebdd5d3d5d01ff2946477191f65eed36f31f9402af88842"), looks := true }, kinds := [], alts := [], laidByText := true, laidKinds := [.data, .data, .data, .sentinel, .sentinel], laidTests := true, laidLooks := .later }
def ValueMapsCardSaid : Prop := Claim7.holds Tryz.pinned (.plain (OpenSpec.ofChange valueMapsSpec)) valueMapsCard

/-- THE TIED CARD OF 'ramblelaw02.ValueChecks'. -/
def valueChecksCard : Claim7 := { stood := { row := valueChecksRow, standIns := [], harness := (true, "7d35628917360a4a9ebdd5d3d5d01ff2946477191f65eed36f31f9402af88842"), looks := true }, kinds := [], alts := [], laidByText := true, laidKinds := [.data, .data, .data, .sentinel, .sentinel], laidTests := true, laidLooks := .later }
def ValueChecksCardSaid : Prop := Claim7.holds Tryz.pinned (.plain (OpenSpec.ofChange valueChecksSpec)) valueChecksCard

/-- THE TIED CARD OF 'ramblelaw02.ValueCompares'. -/
def valueComparesCard : Claim7 := { stood := { row := valueComparesRow, standIns := [], harness := (true, "7d35628917360a4a9ebdd5d3d5d01ff2946477191f65eed36f31f9402af88842"), looks := true }, kinds := [], alts := [], laidByText := true, laidKinds := [.data, .data, .data, .sentinel, .sentinel], laidTests := true, laidLooks := .later }
def ValueComparesCardSaid : Prop := Claim7.holds Tryz.pinned (.plain (OpenSpec.ofChange valueComparesSpec)) valueComparesCard

/-- THE TIED CARD OF 'ramblelaw02.ValueSums'. -/
def valueSumsCard : Claim7 := { stood := { row := valueSumsRow, standIns := [], harness := (true, "7d35628917360a4a9ebdd5d3d5d01ff2946477191f65eed36f31f9402af88842"), looks := true }, kinds := [], alts := [], laidByText := true, laidKinds := [.data, .data, .data, .data, .sentinel, .sentinel, .pinned], laidTests := true, laidLooks := .later }
def ValueSumsCardSaid : Prop := Claim7.holds Tryz.pinned (.plain (OpenSpec.ofChange valueSumsSpec)) valueSumsCard

/-- THE TIED CARD OF 'ramblelaw23.ResultLists'. -/
def resultListsCard : Claim7 := { stood := { row := resultListsRow, standIns := [], harness := (true, "7d35628917360a4a9ebdd5d3d5d01ff2946477191f65eed36f31f9402af88842"), looks := true }, kinds := [], alts := [], laidByText := true, laidKinds := [.data, .data, .data, .sentinel, .sentinel], laidTests := true, laidLooks := .later }
def ResultListsCardSaid : Prop := Claim7.holds Tryz.pinned (.plain (OpenSpec.ofChange resultListsSpec)) resultListsCard

/-- THE TIED CARD OF 'ramblelaw23.ResultBags'. -/
def resultBagsCard : Claim7 := { stood := { row := resultBagsRow, standIns := [], harness := (true, "7d35628917360a4a9ebdd5d3d5d01ff2946477191f65eed36f31f9402af88842"), looks := true }, kinds := [], alts := [], laidByText := true, laidKinds := [.data, .data, .data, .sentinel, .sentinel], laidTests := true, laidLooks := .later }
def ResultBagsCardSaid : Prop := Claim7.holds Tryz.pinned (.plain (OpenSpec.ofChange resultBagsSpec)) resultBagsCard

/-- THE TIED CARD OF 'ramblelaw23.ResultBack'. -/
def resultBackCard : Claim7 := { stood := { row := resultBackRow, standIns := [], harness := (true, "7d35628917360a4a9ebdd5d3d5d01ff2946477191f65eed36f31f9402af88842"), looks := true }, kinds := [], alts := [], laidByText := true, laidKinds := [.data, .data, .data, .sentinel, .sentinel], laidTests := true, laidLooks := .later }
def ResultBackCardSaid : Prop := Claim7.holds Tryz.pinned (.plain (OpenSpec.ofChange resultBackSpec)) resultBackCard

/-- THE TIED CARD OF 'ramblelaw23.ResultAdds'. -/
def resultAddsCard : Claim7 := { stood := { row := resultAddsRow, standIns := [], harness := (true, "7d35628917360a4a9ebdd5d3d5d01ff2946477191f65eed36f31f9402af88842"), looks := true }, kinds := [], alts := [], laidByText := true, laidKinds := [.data, .data, .data, .sentinel, .sentinel], laidTests := true, laidLooks := .later }
def ResultAddsCardSaid : Prop := Claim7.holds Tryz.pinned (.plain (OpenSpec.ofChange resultAddsSpec)) resultAddsCard

/-- THE SECOND FORM's CARD OF 'ramblelaw02.ValueOrder'. -/
def valueOrderUptoCard : Claim7 := { stood := { row := valueOrderUptoRow, standIns := [], harness := (true, "7d35628917360a4a9ebdd5d3d5d01ff2946477191f65eed36f31f9402af88842"), looks := true }, kinds := [], alts := [], laidByText := true, laidKinds := [.data, .data, .data, .sentinel, .sentinel], laidTests := true, laidLooks := .later }
def ValueOrderUptoCardSaid : Prop := Claim7.holds Tryz.pinned (.plain (OpenSpec.upto valueOrderSpec)) valueOrderUptoCard

/-- THE SECOND FORM's CARD OF 'ramblelaw02.ValueBack'. -/
def valueBackUptoCard : Claim7 := { stood := { row := valueBackUptoRow, standIns := [], harness := (true, "7d35628917360a4a9ebdd5d3d5d01ff2946477191f65eed36f31f9402af88842"), looks := true }, kinds := [], alts := [], laidByText := true, laidKinds := [.data, .data, .data, .sentinel, .sentinel], laidTests := true, laidLooks := .later }
def ValueBackUptoCardSaid : Prop := Claim7.holds Tryz.pinned (.plain (OpenSpec.upto valueBackSpec)) valueBackUptoCard

/-- THE SECOND FORM's CARD OF 'ramblelaw02.ValueMaps'. -/
def valueMapsUptoCard : Claim7 := { stood := { row := valueMapsUptoRow, standIns := [], harness := (true, "7d35628917360a4a9ebdd5d3d5d01ff2946477191f65eed36f31f9402af88842"), looks := true }, kinds := [], alts := [], laidByText := true, laidKinds := [.data, .data, .data, .sentinel, .sentinel], laidTests := true, laidLooks := .later }
def ValueMapsUptoCardSaid : Prop := Claim7.holds Tryz.pinned (.plain (OpenSpec.upto valueMapsSpec)) valueMapsUptoCard

/-- THE SECOND FORM's CARD OF 'ramblelaw02.ValueChecks'. -/
def valueChecksUptoCard : Claim7 := { stood := { row := valueChecksUptoRow, standIns := [], harness := (true, "7d35628917360a4a9ebdd5d3d5d01ff2946477191f65eed36f31f9402af88842"), looks := true }, kinds := [], alts := [], laidByText := true, laidKinds := [.data, .data, .data, .sentinel, .sentinel], laidTests := true, laidLooks := .later }
def ValueChecksUptoCardSaid : Prop := Claim7.holds Tryz.pinned (.plain (OpenSpec.upto valueChecksSpec)) valueChecksUptoCard

/-- THE SECOND FORM's CARD OF 'ramblelaw02.ValueCompares'. -/
def valueComparesUptoCard : Claim7 := { stood := { row := valueComparesUptoRow, standIns := [], harness := (true, "7d35628917360a4a9ebdd5d3d5d01ff2946477191f65eed36f31f9402af88842"), looks := true }, kinds := [], alts := [], laidByText := true, laidKinds := [.data, .data, .data, .sentinel, .sentinel], laidTests := true, laidLooks := .later }
def ValueComparesUptoCardSaid : Prop := Claim7.holds Tryz.pinned (.plain (OpenSpec.upto valueComparesSpec)) valueComparesUptoCard

/-- THE SECOND FORM's CARD OF 'ramblelaw02.ValueSums'. -/
def valueSumsUptoCard : Claim7 := { stood := { row := valueSumsUptoRow, standIns := [], harness := (true, "7d35628917360a4a9ebdd5d3d5d01ff2946477191f65eed36f31f9402af88842"), looks := true }, kinds := [], alts := [], laidByText := true, laidKinds := [.data, .data, .data, .data, .sentinel, .sentinel, .pinned], laidTests := true, laidLooks := .later }
def ValueSumsUptoCardSaid : Prop := Claim7.holds Tryz.pinned (.plain (OpenSpec.upto valueSumsSpec)) valueSumsUptoCard

/-- THE SECOND FORM's CARD OF 'ramblelaw23.ResultLists'. -/
def resultListsUptoCard : Claim7 := { stood := { row := resultListsUptoRow, standIns := [], harness := (true, "7d35628917360a4a9ebdd5d3d5d01ff2946477191f65eed36f31f9402af88842"), looks := true }, kinds := [], alts := [], laidByText := true, laidKinds := [.data, .data, .data, .sentinel, .sentinel], laidTests := true, laidLooks := .later }
def ResultListsUptoCardSaid : Prop := Claim7.holds Tryz.pinned (.plain (OpenSpec.upto resultListsSpec)) resultListsUptoCard

/-- THE SECOND FORM's CARD OF 'ramblelaw23.ResultBags'. -/
def resultBagsUptoCard : Claim7 := { stood := { row := resultBagsUptoRow, standIns := [], harness := (true, "7d35628917360a4a9ebdd5d3d5d01ff2946477191f65eed36f31f9402af88842"), looks := true }, kinds := [], alts := [], laidByText := true, laidKinds := [.data, .data, .data, .sentinel, .sentinel], laidTests := true, laidLooks := .later }
def ResultBagsUptoCardSaid : Prop := Claim7.holds Tryz.pinned (.plain (OpenSpec.upto resultBagsSpec)) resultBagsUptoCard

/-- THE SECOND FORM's CARD OF 'ramblelaw23.ResultBack'. -/
def resultBackUptoCard : Claim7 := { stood := { row := resultBackUptoRow, standIns := [], harness := (true, "7d35628917360a4a9ebdd5d3d5d01ff2946477191f65eed36f31f9402af88842"), looks := true }, kinds := [], alts := [], laidByText := true, laidKinds := [.data, .data, .data, .sentinel, .sentinel], laidTests := true, laidLooks := .later }
def ResultBackUptoCardSaid : Prop := Claim7.holds Tryz.pinned (.plain (OpenSpec.upto resultBackSpec)) resultBackUptoCard

/-- THE SECOND FORM's CARD OF 'ramblelaw23.ResultAdds'. -/
def resultAddsUptoCard : Claim7 := { stood := { row := resultAddsUptoRow, standIns := [], harness := (true, "7d35628917360a4a9ebdd5d3d5d01ff2946477191f65eed36f31f9402af88842"), looks := true }, kinds := [], alts := [], laidByText := true, laidKinds := [.data, .data, .data, .sentinel, .sentinel], laidTests := true, laidLooks := .later }
def ResultAddsUptoCardSaid : Prop := Claim7.holds Tryz.pinned (.plain (OpenSpec.upto resultAddsSpec)) resultAddsUptoCard
end Rows
end Go.Proofs.YthelieedlghccaaGreatDoor
