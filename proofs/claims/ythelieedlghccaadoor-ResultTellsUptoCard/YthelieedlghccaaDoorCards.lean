/-
  DERIVED. GIVEN WITH THE SEED: THE CARDS: each row of YthelieedlghccaaDoorRows.lean that lists a variable, with what it lists TIED to the program's text (the seventh form; the later family's looks); each row that meets fmt, with fmt's text TOLD by the authors' own Lean function (tested against real Go, not proved from fmt's source: count such statements apart). THE CARD IS WHAT COUNTS. Prove the row's statement (the work); the ties are given (YthelieedlghccaaDoorTie.lean); close each card by the builder's one call (the guide's Derived/Test/ToyasCard.lean, 'card_holds'). Laid BY PROGRAM, IN A SANDBOX (cutbox-door.mjs). By AI agents, Wed Nov 11 2026. No macro, syntax, notation, axiom, sorry.
-/
import Derived.Test.YthelieedlghccaaDoorRows
import GoSem.ClaimSeven
namespace Go.Proofs.YthelieedlghccaaDoor
namespace Rows

/-- THE TIED CARD OF 'ramblelaw23.ResultTables'. -/
def resultTablesCard : Claim7 := { stood := { row := resultTablesRow, standIns := [], harness := (true, "29ba4e7ca940e42fcbe50e4abab70c022b88cde1c02541a98fb02595cd5e4e7c"), looks := false }, kinds := [], alts := [], laidByText := true, laidKinds := [.data, .data, .data], laidTests := true, laidLooks := .later }
def ResultTablesCardSaid : Prop := Claim7.holds Tryd.pinned (.plain (OpenSpec.ofChange resultTablesSpec)) resultTablesCard

/-- THE TIED CARD OF 'ramblelaw23.ResultTells'. -/
def resultTellsCard : Claim7 := { stood := { row := resultTellsRow, standIns := [], harness := (true, "29ba4e7ca940e42fcbe50e4abab70c022b88cde1c02541a98fb02595cd5e4e7c"), looks := false }, kinds := [], alts := [], laidByText := true, laidKinds := [.data, .data, .data], laidTests := true, laidLooks := .later }
def ResultTellsCardSaid : Prop := Claim7.holds Tryd.pinned (.plain (OpenSpec.ofChange resultTellsSpec)) resultTellsCard

/-- THE SECOND FORM's CARD OF 'ramblelaw23.ResultTables'. -/
def resultTablesUptoCard : Claim7 := { stood := { row := resultTablesUptoRow, standIns := [], harness := (true, "29ba4e7ca940e42fcbe50e4abab70c022b88cde1c02541a98fb02595cd5e4e7c"), looks := false }, kinds := [], alts := [], laidByText := true, laidKinds := [.data, .data, .data], laidTests := true, laidLooks := .later }
def ResultTablesUptoCardSaid : Prop := Claim7.holds Tryd.pinned (.plain (OpenSpec.upto resultTablesSpec)) resultTablesUptoCard

/-- THE SECOND FORM's CARD OF 'ramblelaw23.ResultTells'. -/
def resultTellsUptoCard : Claim7 := { stood := { row := resultTellsUptoRow, standIns := [], harness := (true, "29ba4e7ca940e42fcbe50e4abab70c022b88cde1c02541a98fb02595cd5e4e7c"), looks := false }, kinds := [], alts := [], laidByText := true, laidKinds := [.data, .data, .data], laidTests := true, laidLooks := .later }
def ResultTellsUptoCardSaid : Prop := Claim7.holds Tryd.pinned (.plain (OpenSpec.upto resultTellsSpec)) resultTellsUptoCard
end Rows
end Go.Proofs.YthelieedlghccaaDoor
