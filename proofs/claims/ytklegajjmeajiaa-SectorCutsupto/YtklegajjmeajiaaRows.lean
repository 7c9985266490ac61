/-
  No cell of these rows narrows 'for every input' (looked for: loops, veiled, ifaces, maps, wideKeys, modest, calm, conditions, laid).
  DERIVED. THE GIVEN ROWS OF THIS SEAT. 5 by the template 'for every input the law returns true; each argument reads behind the call as it read before'; 0 by the template 'total and deterministic' (their statements: YtklegajjmeajiaaTotals.lean).
  GIVEN WITH THE SEED: the statements are not yours to turn. If you find one false, say at which input.
  Laid BY PROGRAM, IN A SANDBOX (cutbox-rows.mjs): the forced cells as the released guide's own fill.sh prints them over the translation 6b48f3a5e3355ade… (all of the seat's roots in one cut). By AI agents, Wed Nov 11 2026. No macro, syntax, notation, axiom, sorry.
-/
import Derived.Test.YtklegajjmeajiaaChecked
import GoSem.Claim
import GoSem.ClaimJoined
import GoSem.ClaimMapViews
import Derived.JoinedTies
import Derived.KernelRfl
namespace Go.Proofs.Ytklegajjmeajiaa
/- THE CELL 'sum', in the pinned program and in every row, IS THE sha256 OF THE DUMP (.gsa) THAT YtklegajjmeajiaaProg.lean LOADS. Nothing in Lean hashes anything: it is a label: what it is worth is what the hold of that sum in a sandbox is worth. -/
noncomputable def Try.pinned : Pinned := { name := "ytklegajjmeajiaa", sum := "6b48f3a5e3355ade2bd2281e692a7bf8c901395b0d9a31b057ddaa530736ed30", checked := Try.checked }
namespace Rows
def none {H : Type} : Left H := { results := [], args := [] }

/-- 'ramblelaw05.SectorFrames': WHATEVER THE INPUT: true; the input reads as it did. -/
def sectorFramesSpec : ChangeSpec := { name := "sectorFrames", fn := fun _ => fun
  | [d1, d2] => { results := [.lit (.bool true)], args := [d1, d2] }
  | _ => none }
def sectorFramesRow : OpenClaim := { program := "ytklegajjmeajiaa", sum := "6b48f3a5e3355ade2bd2281e692a7bf8c901395b0d9a31b057ddaa530736ed30", func := "ramble/ramblelaw05.SectorFrames", spec := "sectorFrames", apart := false }
def SectorFramesSaid : Prop := sectorFramesRow.holds Try.pinned (OpenSpec.ofChange sectorFramesSpec)

/-- ITS FALSE NEIGHBOUR: 'it returns false'. Refute it at one input. -/
def sectorFramesWrong : ChangeSpec := { name := "sectorFrames", fn := fun _ => fun
  | [d1, d2] => { results := [.lit (.bool false)], args := [d1, d2] }
  | _ => none }
def SectorFramesWrongFalsely : Prop := sectorFramesRow.holds Try.pinned (OpenSpec.ofChange sectorFramesWrong)

/-- 'ramblelaw05.SectorBack': WHATEVER THE INPUT: true; the input reads as it did. -/
def sectorBackSpec : ChangeSpec := { name := "sectorBack", fn := fun _ => fun
  | [d] => { results := [.lit (.bool true)], args := [d] }
  | _ => none }
def sectorBackRow : OpenClaim := { program := "ytklegajjmeajiaa", sum := "6b48f3a5e3355ade2bd2281e692a7bf8c901395b0d9a31b057ddaa530736ed30", func := "ramble/ramblelaw05.SectorBack", spec := "sectorBack", apart := false }
def SectorBackSaid : Prop := sectorBackRow.holds Try.pinned (OpenSpec.ofChange sectorBackSpec)

/-- ITS FALSE NEIGHBOUR: 'it returns false'. Refute it at one input. -/
def sectorBackWrong : ChangeSpec := { name := "sectorBack", fn := fun _ => fun
  | [d] => { results := [.lit (.bool false)], args := [d] }
  | _ => none }
def SectorBackWrongFalsely : Prop := sectorBackRow.holds Try.pinned (OpenSpec.ofChange sectorBackWrong)

/-- 'ramblelaw05.SectorCuts': WHATEVER THE INPUT: true; the input reads as it did. -/
def sectorCutsSpec : ChangeSpec := { name := "sectorCuts", fn := fun _ => fun
  | [d1, d2] => { results := [.lit (.bool true)], args := [d1, d2] }
  | _ => none }
def sectorCutsRow : OpenClaim := { program := "ytklegajjmeajiaa", sum := "6b48f3a5e3355ade2bd2281e692a7bf8c901395b0d9a31b057ddaa530736ed30", func := "ramble/ramblelaw05.SectorCuts", spec := "sectorCuts", unfollowed := true, recurses := true, apart := false }
def SectorCutsSaid : Prop := sectorCutsRow.holds Try.pinned (OpenSpec.ofChange sectorCutsSpec)

/-- ITS FALSE NEIGHBOUR: 'it returns false'. Refute it at one input. -/
def sectorCutsWrong : ChangeSpec := { name := "sectorCuts", fn := fun _ => fun
  | [d1, d2] => { results := [.lit (.bool false)], args := [d1, d2] }
  | _ => none }
def SectorCutsWrongFalsely : Prop := sectorCutsRow.holds Try.pinned (OpenSpec.ofChange sectorCutsWrong)

/-- 'ramblelaw05.SectorDamage': WHATEVER THE INPUT: true; the input reads as it did. -/
def sectorDamageSpec : ChangeSpec := { name := "sectorDamage", fn := fun _ => fun
  | [d1, d2, d3] => { results := [.lit (.bool true)], args := [d1, d2, d3] }
  | _ => none }
def sectorDamageRow : OpenClaim := { program := "ytklegajjmeajiaa", sum := "6b48f3a5e3355ade2bd2281e692a7bf8c901395b0d9a31b057ddaa530736ed30", func := "ramble/ramblelaw05.SectorDamage", spec := "sectorDamage", apart := false }
def SectorDamageSaid : Prop := sectorDamageRow.holds Try.pinned (OpenSpec.ofChange sectorDamageSpec)

/-- ITS FALSE NEIGHBOUR: 'it returns false'. Refute it at one input. -/
def sectorDamageWrong : ChangeSpec := { name := "sectorDamage", fn := fun _ => fun
  | [d1, d2, d3] => { results := [.lit (.bool false)], args := [d1, d2, d3] }
  | _ => none }
def SectorDamageWrongFalsely : Prop := sectorDamageRow.holds Try.pinned (OpenSpec.ofChange sectorDamageWrong)

/-- 'ramblelaw05.SectorDisks': WHATEVER THE INPUT: true; the input reads as it did. -/
def sectorDisksSpec : ChangeSpec := { name := "sectorDisks", fn := fun _ => fun
  | [d] => { results := [.lit (.bool true)], args := [d] }
  | _ => none }
def sectorDisksRow : OpenClaim := { program := "ytklegajjmeajiaa", sum := "6b48f3a5e3355ade2bd2281e692a7bf8c901395b0d9a31b057ddaa530736ed30", func := "ramble/ramblelaw05.SectorDisks", spec := "sectorDisks", apart := false }
def SectorDisksSaid : Prop := sectorDisksRow.holds Try.pinned (OpenSpec.ofChange sectorDisksSpec)

/-- ITS FALSE NEIGHBOUR: 'it returns false'. Refute it at one input. -/
def sectorDisksWrong : ChangeSpec := { name := "sectorDisks", fn := fun _ => fun
  | [d] => { results := [.lit (.bool false)], args := [d] }
  | _ => none }
def SectorDisksWrongFalsely : Prop := sectorDisksRow.holds Try.pinned (OpenSpec.ofChange sectorDisksWrong)

/- THE SECOND FORM. 'bulk': how many values and letters a reading holds, each counted each time it is reached (what is shared counts as often as it is met; a slice's spare places count too). A statement '..UptoSaid' is the law's where the arguments, and the package variables that the reading takes, are together of bulk at most 1048576: NARROWER than '..Said'. Prove '..Said' where nothing that the law and all that it calls make is longer than what came in: it says more and counts as full. Else prove '..UptoSaid'. A law counts once. -/
mutual
def uptoBulk {H : Type} : DataW H → Nat
  | .lit (.string bytes) => bytes.length + 1
  | .lit _ => 1
  | .nil => 1
  | .ptr d => uptoBulk d + 1
  | .slice elems spare => uptoBulkAll elems + uptoBulkAll spare + 1
  | .agg parts => uptoBulkAll parts + 1
  | .iface _ d => uptoBulk d + 1
  | .map entries => uptoBulkEntries entries + 1
  | .held _ => 1
def uptoBulkAll {H : Type} : List (DataW H) → Nat
  | [] => 0
  | d :: r => uptoBulk d + uptoBulkAll r
def uptoBulkEntries {H : Type} : List (Lit × DataW H) → Nat
  | [] => 0
  | x :: r => uptoBulkEntry x + uptoBulkEntries r
def uptoBulkEntry {H : Type} : Lit × DataW H → Nat
  | (.string bytes, d) => bytes.length + uptoBulk d + 1
  | (_, d) => uptoBulk d + 1
 end
def uptoSmall : (H : Type) → List (DataW H) → Bool := fun _ ds => decide (uptoBulkAll ds ≤ 1048576)
def OpenSpec.upto (s : _root_.Go.ChangeSpec) : _root_.Go.OpenSpec := { _root_.Go.OpenSpec.ofChange s with cond := some uptoSmall }

/-- 'ramblelaw05.SectorFrames', WHERE WHAT IT READS IS OF BULK AT MOST 1048576: true; the input reads as it did. -/
def sectorFramesUptoRow : OpenClaim := { program := "ytklegajjmeajiaa", sum := "6b48f3a5e3355ade2bd2281e692a7bf8c901395b0d9a31b057ddaa530736ed30", func := "ramble/ramblelaw05.SectorFrames", spec := "sectorFrames", apart := false, narrowed := true }
def SectorFramesUptoSaid : Prop := sectorFramesUptoRow.holds Try.pinned (OpenSpec.upto sectorFramesSpec)

/-- 'ramblelaw05.SectorBack', WHERE WHAT IT READS IS OF BULK AT MOST 1048576: true; the input reads as it did. -/
def sectorBackUptoRow : OpenClaim := { program := "ytklegajjmeajiaa", sum := "6b48f3a5e3355ade2bd2281e692a7bf8c901395b0d9a31b057ddaa530736ed30", func := "ramble/ramblelaw05.SectorBack", spec := "sectorBack", apart := false, narrowed := true }
def SectorBackUptoSaid : Prop := sectorBackUptoRow.holds Try.pinned (OpenSpec.upto sectorBackSpec)

/-- 'ramblelaw05.SectorCuts', WHERE WHAT IT READS IS OF BULK AT MOST 1048576: true; the input reads as it did. -/
def sectorCutsUptoRow : OpenClaim := { program := "ytklegajjmeajiaa", sum := "6b48f3a5e3355ade2bd2281e692a7bf8c901395b0d9a31b057ddaa530736ed30", func := "ramble/ramblelaw05.SectorCuts", spec := "sectorCuts", unfollowed := true, recurses := true, apart := false, narrowed := true }
def SectorCutsUptoSaid : Prop := sectorCutsUptoRow.holds Try.pinned (OpenSpec.upto sectorCutsSpec)

/-- 'ramblelaw05.SectorDamage', WHERE WHAT IT READS IS OF BULK AT MOST 1048576: true; the input reads as it did. -/
def sectorDamageUptoRow : OpenClaim := { program := "ytklegajjmeajiaa", sum := "6b48f3a5e3355ade2bd2281e692a7bf8c901395b0d9a31b057ddaa530736ed30", func := "ramble/ramblelaw05.SectorDamage", spec := "sectorDamage", apart := false, narrowed := true }
def SectorDamageUptoSaid : Prop := sectorDamageUptoRow.holds Try.pinned (OpenSpec.upto sectorDamageSpec)

/-- 'ramblelaw05.SectorDisks', WHERE WHAT IT READS IS OF BULK AT MOST 1048576: true; the input reads as it did. -/
def sectorDisksUptoRow : OpenClaim := { program := "ytklegajjmeajiaa", sum := "6b48f3a5e3355ade2bd2281e692a7bf8c901395b0d9a31b057ddaa530736ed30", func := "ramble/ramblelaw05.SectorDisks", spec := "sectorDisks", apart := false, narrowed := true }
def SectorDisksUptoSaid : Prop := sectorDisksUptoRow.holds Try.pinned (OpenSpec.upto sectorDisksSpec)

end Rows
end Go.Proofs.Ytklegajjmeajiaa
