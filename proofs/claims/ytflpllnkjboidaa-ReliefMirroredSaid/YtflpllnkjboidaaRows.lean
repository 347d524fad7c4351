/-
  No cell of these rows narrows 'for every input' (looked for: loops, veiled, ifaces, maps, wideKeys, modest, calm, conditions, laid).
  DERIVED. THE GIVEN ROWS OF THIS SEAT. 5 by the template 'for every input the law returns true; each argument reads behind the call as it read before'; 0 by the template 'total and deterministic' (their statements: YtflpllnkjboidaaTotals.lean).
  GIVEN WITH THE SEED: the statements are not yours to turn. If you find one false, say at which input.
  Laid BY PROGRAM, IN A SANDBOX (cutbox-rows.mjs): the forced cells as the released guide's own fill.sh prints them over the translation e8fd15a20319dae8… (all of the seat's roots in one cut). By AI agents, Wed Nov 11 2026. No macro, syntax, notation, axiom, sorry.
-/
import Derived.Test.YtflpllnkjboidaaChecked
import GoSem.Claim
import GoSem.ClaimJoined
import GoSem.ClaimMapViews
import Derived.JoinedTies
import Derived.KernelRfl
namespace Go.Proofs.Ytflpllnkjboidaa
/- THE CELL 'sum', in the pinned program and in every row, IS THE sha256 OF THE DUMP (.gsa) THAT YtflpllnkjboidaaProg.lean LOADS. Nothing in Lean hashes anything: it is a label: what it is worth is what the hold of that sum in a sandbox is worth. -/
noncomputable def Try.pinned : Pinned := { name := "ytflpllnkjboidaa", sum := "e8fd15a20319dae856513d9fe2b42f9d270380b09f62d99535e0f7198ca96256", checked := Try.checked }
namespace Rows
def none {H : Type} : Left H := { results := [], args := [] }

/-- 'mapsheetslaw45.ReliefCells': WHATEVER THE INPUT: true; the input reads as it did. -/
def reliefCellsSpec : ChangeSpec := { name := "reliefCells", fn := fun _ => fun
  | [d1, d2, d3] => { results := [.lit (.bool true)], args := [d1, d2, d3] }
  | _ => none }
def reliefCellsRow : OpenClaim := { program := "ytflpllnkjboidaa", sum := "e8fd15a20319dae856513d9fe2b42f9d270380b09f62d99535e0f7198ca96256", func := "mapsheets/mapsheetslaw45.ReliefCells", spec := "reliefCells", unfollowed := true, recurses := true, apart := false }
def ReliefCellsSaid : Prop := reliefCellsRow.holds Try.pinned (OpenSpec.ofChange reliefCellsSpec)

/-- ITS FALSE NEIGHBOUR: 'it returns false'. Refute it at one input. -/
def reliefCellsWrong : ChangeSpec := { name := "reliefCells", fn := fun _ => fun
  | [d1, d2, d3] => { results := [.lit (.bool false)], args := [d1, d2, d3] }
  | _ => none }
def ReliefCellsWrongFalsely : Prop := reliefCellsRow.holds Try.pinned (OpenSpec.ofChange reliefCellsWrong)

/-- 'mapsheetslaw45.ReliefAll': WHATEVER THE INPUT: true; the input reads as it did. -/
def reliefAllSpec : ChangeSpec := { name := "reliefAll", fn := fun _ => fun
  | [d] => { results := [.lit (.bool true)], args := [d] }
  | _ => none }
def reliefAllRow : OpenClaim := { program := "ytflpllnkjboidaa", sum := "e8fd15a20319dae856513d9fe2b42f9d270380b09f62d99535e0f7198ca96256", func := "mapsheets/mapsheetslaw45.ReliefAll", spec := "reliefAll", unfollowed := true, recurses := true, apart := false }
def ReliefAllSaid : Prop := reliefAllRow.holds Try.pinned (OpenSpec.ofChange reliefAllSpec)

/-- ITS FALSE NEIGHBOUR: 'it returns false'. Refute it at one input. -/
def reliefAllWrong : ChangeSpec := { name := "reliefAll", fn := fun _ => fun
  | [d] => { results := [.lit (.bool false)], args := [d] }
  | _ => none }
def ReliefAllWrongFalsely : Prop := reliefAllRow.holds Try.pinned (OpenSpec.ofChange reliefAllWrong)

/-- 'mapsheetslaw45.ReliefRaised': WHATEVER THE INPUT: true; the input reads as it did. -/
def reliefRaisedSpec : ChangeSpec := { name := "reliefRaised", fn := fun _ => fun
  | [d1, d2] => { results := [.lit (.bool true)], args := [d1, d2] }
  | _ => none }
def reliefRaisedRow : OpenClaim := { program := "ytflpllnkjboidaa", sum := "e8fd15a20319dae856513d9fe2b42f9d270380b09f62d99535e0f7198ca96256", func := "mapsheets/mapsheetslaw45.ReliefRaised", spec := "reliefRaised", unfollowed := true, recurses := true, apart := false }
def ReliefRaisedSaid : Prop := reliefRaisedRow.holds Try.pinned (OpenSpec.ofChange reliefRaisedSpec)

/-- ITS FALSE NEIGHBOUR: 'it returns false'. Refute it at one input. -/
def reliefRaisedWrong : ChangeSpec := { name := "reliefRaised", fn := fun _ => fun
  | [d1, d2] => { results := [.lit (.bool false)], args := [d1, d2] }
  | _ => none }
def ReliefRaisedWrongFalsely : Prop := reliefRaisedRow.holds Try.pinned (OpenSpec.ofChange reliefRaisedWrong)

/-- 'mapsheetslaw45.ReliefTurned': WHATEVER THE INPUT: true; the input reads as it did. -/
def reliefTurnedSpec : ChangeSpec := { name := "reliefTurned", fn := fun _ => fun
  | [d1, d2, d3] => { results := [.lit (.bool true)], args := [d1, d2, d3] }
  | _ => none }
def reliefTurnedRow : OpenClaim := { program := "ytflpllnkjboidaa", sum := "e8fd15a20319dae856513d9fe2b42f9d270380b09f62d99535e0f7198ca96256", func := "mapsheets/mapsheetslaw45.ReliefTurned", spec := "reliefTurned", unfollowed := true, recurses := true, apart := false }
def ReliefTurnedSaid : Prop := reliefTurnedRow.holds Try.pinned (OpenSpec.ofChange reliefTurnedSpec)

/-- ITS FALSE NEIGHBOUR: 'it returns false'. Refute it at one input. -/
def reliefTurnedWrong : ChangeSpec := { name := "reliefTurned", fn := fun _ => fun
  | [d1, d2, d3] => { results := [.lit (.bool false)], args := [d1, d2, d3] }
  | _ => none }
def ReliefTurnedWrongFalsely : Prop := reliefTurnedRow.holds Try.pinned (OpenSpec.ofChange reliefTurnedWrong)

/-- 'mapsheetslaw45.ReliefMirrored': WHATEVER THE INPUT: true; the input reads as it did. -/
def reliefMirroredSpec : ChangeSpec := { name := "reliefMirrored", fn := fun _ => fun
  | [d1, d2, d3] => { results := [.lit (.bool true)], args := [d1, d2, d3] }
  | _ => none }
def reliefMirroredRow : OpenClaim := { program := "ytflpllnkjboidaa", sum := "e8fd15a20319dae856513d9fe2b42f9d270380b09f62d99535e0f7198ca96256", func := "mapsheets/mapsheetslaw45.ReliefMirrored", spec := "reliefMirrored", unfollowed := true, recurses := true, apart := false }
def ReliefMirroredSaid : Prop := reliefMirroredRow.holds Try.pinned (OpenSpec.ofChange reliefMirroredSpec)

/-- ITS FALSE NEIGHBOUR: 'it returns false'. Refute it at one input. -/
def reliefMirroredWrong : ChangeSpec := { name := "reliefMirrored", fn := fun _ => fun
  | [d1, d2, d3] => { results := [.lit (.bool false)], args := [d1, d2, d3] }
  | _ => none }
def ReliefMirroredWrongFalsely : Prop := reliefMirroredRow.holds Try.pinned (OpenSpec.ofChange reliefMirroredWrong)

/- THE SECOND FORM. 'bulk': how many values and letters a reading holds, each counted each time it is reached (what is shared counts as often as it is met; a slice's spare places count too). A statement '..UptoSaid' is the law's where the arguments, and the package variables that the reading takes, are together of bulk at most 1048576: NARROWER than '..Said'. Prove '..Said' where nothing that the law and all that it calls make is longer than what came in: it says more and counts as full. Else prove '..UptoSaid'. A law counts once. -/
mutual
def uptoBulk {H : Type} : DataW H → Nat
  | .lit (.string bytes) => bytes.length + 1
  | .lit _ => 1
  | .nil => 1
  | .ptr d => uptoBulk d + 1
  | .slice elems spare => uptoBulkAll elems + uptoBulkAll spare + 1
  | .agg parts => uptoBulkAll parts + 1
  | .iface _ d => uptoBulk d + 1
  | .map entries => uptoBulkEntries entries + 1
  | .held _ => 1
def uptoBulkAll {H : Type} : List (DataW H) → Nat
  | [] => 0
  | d :: r => uptoBulk d + uptoBulkAll r
def uptoBulkEntries {H : Type} : List (Lit × DataW H) → Nat
  | [] => 0
  | x :: r => uptoBulkEntry x + uptoBulkEntries r
def uptoBulkEntry {H : Type} : Lit × DataW H → Nat
  | (.string bytes, d) => bytes.length + uptoBulk d + 1
  | (_, d) => uptoBulk d + 1
 end
def uptoSmall : (H : Type) → List (DataW H) → Bool := fun _ ds => decide (uptoBulkAll ds ≤ 1048576)
def OpenSpec.upto (s : _root_.Go.ChangeSpec) : _root_.Go.OpenSpec := { _root_.Go.OpenSpec.ofChange s with cond := some uptoSmall }

/-- 'mapsheetslaw45.ReliefCells', WHERE WHAT IT READS IS OF BULK AT MOST 1048576: true; the input reads as it did. -/
def reliefCellsUptoRow : OpenClaim := { program := "ytflpllnkjboidaa", sum := "e8fd15a20319dae856513d9fe2b42f9d270380b09f62d99535e0f7198ca96256", func := "mapsheets/mapsheetslaw45.ReliefCells", spec := "reliefCells", unfollowed := true, recurses := true, apart := false, narrowed := true }
def ReliefCellsUptoSaid : Prop := reliefCellsUptoRow.holds Try.pinned (OpenSpec.upto reliefCellsSpec)

/-- 'mapsheetslaw45.ReliefAll', WHERE WHAT IT READS IS OF BULK AT MOST 1048576: true; the input reads as it did. -/
def reliefAllUptoRow : OpenClaim := { program := "ytflpllnkjboidaa", sum := "e8fd15a20319dae856513d9fe2b42f9d270380b09f62d99535e0f7198ca96256", func := "mapsheets/mapsheetslaw45.ReliefAll", spec := "reliefAll", unfollowed := true, recurses := true, apart := false, narrowed := true }
def ReliefAllUptoSaid : Prop := reliefAllUptoRow.holds Try.pinned (OpenSpec.upto reliefAllSpec)

/-- 'mapsheetslaw45.ReliefRaised', WHERE WHAT IT READS IS OF BULK AT MOST 1048576: true; the input reads as it did. -/
def reliefRaisedUptoRow : OpenClaim := { program := "ytflpllnkjboidaa", sum := "e8fd15a20319dae856513d9fe2b42f9d270380b09f62d99535e0f7198ca96256", func := "mapsheets/mapsheetslaw45.ReliefRaised", spec := "reliefRaised", unfollowed := true, recurses := true, apart := false, narrowed := true }
def ReliefRaisedUptoSaid : Prop := reliefRaisedUptoRow.holds Try.pinned (OpenSpec.upto reliefRaisedSpec)

/-- 'mapsheetslaw45.ReliefTurned', WHERE WHAT IT READS IS OF BULK AT MOST 1048576: true; the input reads as it did. -/
def reliefTurnedUptoRow : OpenClaim := { program := "ytflpllnkjboidaa", sum := "e8fd15a20319dae856513d9fe2b42f9d270380b09f62d99535e0f7198ca96256", func := "mapsheets/mapsheetslaw45.ReliefTurned", spec := "reliefTurned", unfollowed := true, recurses := true, apart := false, narrowed := true }
def ReliefTurnedUptoSaid : Prop := reliefTurnedUptoRow.holds Try.pinned (OpenSpec.upto reliefTurnedSpec)

/-- 'mapsheetslaw45.ReliefMirrored', WHERE WHAT IT READS IS OF BULK AT MOST 1048576: true; the input reads as it did. -/
def reliefMirroredUptoRow : OpenClaim := { program := "ytflpllnkjboidaa", sum := "e8fd15a20319dae856513d9fe2b42f9d270380b09f62d99535e0f7198ca96256", func := "mapsheets/mapsheetslaw45.ReliefMirrored", spec := "reliefMirrored", unfollowed := true, recurses := true, apart := false, narrowed := true }
def ReliefMirroredUptoSaid : Prop := reliefMirroredUptoRow.holds Try.pinned (OpenSpec.upto reliefMirroredSpec)

end Rows
end Go.Proofs.Ytflpllnkjboidaa
