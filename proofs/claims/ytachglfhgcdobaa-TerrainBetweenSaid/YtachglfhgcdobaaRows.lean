/-
  No cell of these rows narrows 'for every input' (looked for: loops, veiled, ifaces, maps, wideKeys, modest, calm, conditions, laid).
  DERIVED. THE GIVEN ROWS OF THIS SEAT. 6 by the template 'for every input the law returns true; each argument reads behind the call as it read before'; 0 by the template 'total and deterministic' (their statements: YtachglfhgcdobaaTotals.lean).
  GIVEN WITH THE SEED: the statements are not yours to turn. If you find one false, say at which input.
  Laid BY PROGRAM, IN A SANDBOX (cutbox-rows.mjs): the forced cells as the released guide's own fill.sh prints them over the translation ce21d52d4d2a249b… (all of the seat's roots in one cut). By AI agents, Wed Nov 11 2026. No macro, syntax, notation, axiom, sorry.
-/
import Derived.Test.YtachglfhgcdobaaChecked
import GoSem.Claim
import GoSem.ClaimJoined
import GoSem.ClaimMapViews
import Derived.JoinedTies
import Derived.KernelRfl
namespace Go.Proofs.Ytachglfhgcdobaa
/- THE CELL 'sum', in the pinned program and in every row, IS THE sha256 OF THE DUMP (.gsa) THAT YtachglfhgcdobaaProg.lean LOADS. Nothing in Lean hashes anything: it is a label: what it is worth is what the hold of that sum in a sandbox is worth. -/
noncomputable def Try.pinned : Pinned := { name := "ytachglfhgcdobaa", sum := "ce21d52d4d2a249bf030c0f4c17812ab485c09aaa2dd940bb29a13a3bc7d2737", checked := Try.checked }
namespace Rows
def none {H : Type} : Left H := { results := [], args := [] }

/-- 'mapsheetslaw43.TerrainChecks': WHATEVER THE INPUT: true; the input reads as it did. -/
def terrainChecksSpec : ChangeSpec := { name := "terrainChecks", fn := fun _ => fun
  | [d1, d2, d3] => { results := [.lit (.bool true)], args := [d1, d2, d3] }
  | _ => none }
def terrainChecksRow : OpenClaim := { program := "ytachglfhgcdobaa", sum := "ce21d52d4d2a249bf030c0f4c17812ab485c09aaa2dd940bb29a13a3bc7d2737", func := "mapsheets/mapsheetslaw43.TerrainChecks", spec := "terrainChecks", unfollowed := true, recurses := true, apart := false }
def TerrainChecksSaid : Prop := terrainChecksRow.holds Try.pinned (OpenSpec.ofChange terrainChecksSpec)

/-- ITS FALSE NEIGHBOUR: 'it returns false'. Refute it at one input. -/
def terrainChecksWrong : ChangeSpec := { name := "terrainChecks", fn := fun _ => fun
  | [d1, d2, d3] => { results := [.lit (.bool false)], args := [d1, d2, d3] }
  | _ => none }
def TerrainChecksWrongFalsely : Prop := terrainChecksRow.holds Try.pinned (OpenSpec.ofChange terrainChecksWrong)

/-- 'mapsheetslaw43.TerrainHeights': WHATEVER THE INPUT: true; the input reads as it did. -/
def terrainHeightsSpec : ChangeSpec := { name := "terrainHeights", fn := fun _ => fun
  | [d1, d2] => { results := [.lit (.bool true)], args := [d1, d2] }
  | _ => none }
def terrainHeightsRow : OpenClaim := { program := "ytachglfhgcdobaa", sum := "ce21d52d4d2a249bf030c0f4c17812ab485c09aaa2dd940bb29a13a3bc7d2737", func := "mapsheets/mapsheetslaw43.TerrainHeights", spec := "terrainHeights", unfollowed := true, recurses := true, apart := false }
def TerrainHeightsSaid : Prop := terrainHeightsRow.holds Try.pinned (OpenSpec.ofChange terrainHeightsSpec)

/-- ITS FALSE NEIGHBOUR: 'it returns false'. Refute it at one input. -/
def terrainHeightsWrong : ChangeSpec := { name := "terrainHeights", fn := fun _ => fun
  | [d1, d2] => { results := [.lit (.bool false)], args := [d1, d2] }
  | _ => none }
def TerrainHeightsWrongFalsely : Prop := terrainHeightsRow.holds Try.pinned (OpenSpec.ofChange terrainHeightsWrong)

/-- 'mapsheetslaw43.TerrainPeaks': WHATEVER THE INPUT: true; the input reads as it did. -/
def terrainPeaksSpec : ChangeSpec := { name := "terrainPeaks", fn := fun _ => fun
  | [d] => { results := [.lit (.bool true)], args := [d] }
  | _ => none }
def terrainPeaksRow : OpenClaim := { program := "ytachglfhgcdobaa", sum := "ce21d52d4d2a249bf030c0f4c17812ab485c09aaa2dd940bb29a13a3bc7d2737", func := "mapsheets/mapsheetslaw43.TerrainPeaks", spec := "terrainPeaks", unfollowed := true, recurses := true, apart := false }
def TerrainPeaksSaid : Prop := terrainPeaksRow.holds Try.pinned (OpenSpec.ofChange terrainPeaksSpec)

/-- ITS FALSE NEIGHBOUR: 'it returns false'. Refute it at one input. -/
def terrainPeaksWrong : ChangeSpec := { name := "terrainPeaks", fn := fun _ => fun
  | [d] => { results := [.lit (.bool false)], args := [d] }
  | _ => none }
def TerrainPeaksWrongFalsely : Prop := terrainPeaksRow.holds Try.pinned (OpenSpec.ofChange terrainPeaksWrong)

/-- 'mapsheetslaw43.TerrainRises': WHATEVER THE INPUT: true; the input reads as it did. -/
def terrainRisesSpec : ChangeSpec := { name := "terrainRises", fn := fun _ => fun
  | [d1, d2, d3] => { results := [.lit (.bool true)], args := [d1, d2, d3] }
  | _ => none }
def terrainRisesRow : OpenClaim := { program := "ytachglfhgcdobaa", sum := "ce21d52d4d2a249bf030c0f4c17812ab485c09aaa2dd940bb29a13a3bc7d2737", func := "mapsheets/mapsheetslaw43.TerrainRises", spec := "terrainRises", unfollowed := true, recurses := true, apart := false }
def TerrainRisesSaid : Prop := terrainRisesRow.holds Try.pinned (OpenSpec.ofChange terrainRisesSpec)

/-- ITS FALSE NEIGHBOUR: 'it returns false'. Refute it at one input. -/
def terrainRisesWrong : ChangeSpec := { name := "terrainRises", fn := fun _ => fun
  | [d1, d2, d3] => { results := [.lit (.bool false)], args := [d1, d2, d3] }
  | _ => none }
def TerrainRisesWrongFalsely : Prop := terrainRisesRow.holds Try.pinned (OpenSpec.ofChange terrainRisesWrong)

/-- 'mapsheetslaw43.TerrainMoves': WHATEVER THE INPUT: true; the input reads as it did. -/
def terrainMovesSpec : ChangeSpec := { name := "terrainMoves", fn := fun _ => fun
  | [d1, d2, d3] => { results := [.lit (.bool true)], args := [d1, d2, d3] }
  | _ => none }
def terrainMovesRow : OpenClaim := { program := "ytachglfhgcdobaa", sum := "ce21d52d4d2a249bf030c0f4c17812ab485c09aaa2dd940bb29a13a3bc7d2737", func := "mapsheets/mapsheetslaw43.TerrainMoves", spec := "terrainMoves", unfollowed := true, recurses := true, apart := false }
def TerrainMovesSaid : Prop := terrainMovesRow.holds Try.pinned (OpenSpec.ofChange terrainMovesSpec)

/-- ITS FALSE NEIGHBOUR: 'it returns false'. Refute it at one input. -/
def terrainMovesWrong : ChangeSpec := { name := "terrainMoves", fn := fun _ => fun
  | [d1, d2, d3] => { results := [.lit (.bool false)], args := [d1, d2, d3] }
  | _ => none }
def TerrainMovesWrongFalsely : Prop := terrainMovesRow.holds Try.pinned (OpenSpec.ofChange terrainMovesWrong)

/-- 'mapsheetslaw43.TerrainBetween': WHATEVER THE INPUT: true; the input reads as it did. -/
def terrainBetweenSpec : ChangeSpec := { name := "terrainBetween", fn := fun _ => fun
  | [d1, d2, d3, d4] => { results := [.lit (.bool true)], args := [d1, d2, d3, d4] }
  | _ => none }
def terrainBetweenRow : OpenClaim := { program := "ytachglfhgcdobaa", sum := "ce21d52d4d2a249bf030c0f4c17812ab485c09aaa2dd940bb29a13a3bc7d2737", func := "mapsheets/mapsheetslaw43.TerrainBetween", spec := "terrainBetween", unfollowed := true, recurses := true, apart := false }
def TerrainBetweenSaid : Prop := terrainBetweenRow.holds Try.pinned (OpenSpec.ofChange terrainBetweenSpec)

/-- ITS FALSE NEIGHBOUR: 'it returns false'. Refute it at one input. -/
def terrainBetweenWrong : ChangeSpec := { name := "terrainBetween", fn := fun _ => fun
  | [d1, d2, d3, d4] => { results := [.lit (.bool false)], args := [d1, d2, d3, d4] }
  | _ => none }
def TerrainBetweenWrongFalsely : Prop := terrainBetweenRow.holds Try.pinned (OpenSpec.ofChange terrainBetweenWrong)

/- THE SECOND FORM. 'bulk': how many values and letters a reading holds, each counted each time it is reached (what is shared counts as often as it is met; a slice's spare places count too). A statement '..UptoSaid' is the law's where the arguments, and the package variables that the reading takes, are together of bulk at most 1048576: NARROWER than '..Said'. Prove '..Said' where nothing that the law and all that it calls make is longer than what came in: it says more and counts as full. Else prove '..UptoSaid'. A law counts once. -/
mutual
def uptoBulk {H : Type} : DataW H → Nat
  | .lit (.string bytes) => bytes.length + 1
  | .lit _ => 1
  | .nil => 1
  | .ptr d => uptoBulk d + 1
  | .slice elems spare => uptoBulkAll elems + uptoBulkAll spare + 1
  | .agg parts => uptoBulkAll parts + 1
  | .iface _ d => uptoBulk d + 1
  | .map entries => uptoBulkEntries entries + 1
  | .held _ => 1
def uptoBulkAll {H : Type} : List (DataW H) → Nat
  | [] => 0
  | d :: r => uptoBulk d + uptoBulkAll r
def uptoBulkEntries {H : Type} : List (Lit × DataW H) → Nat
  | [] => 0
  | x :: r => uptoBulkEntry x + uptoBulkEntries r
def uptoBulkEntry {H : Type} : Lit × DataW H → Nat
  | (.string bytes, d) => bytes.length + uptoBulk d + 1
  | (_, d) => uptoBulk d + 1
 end
def uptoSmall : (H : Type) → List (DataW H) → Bool := fun _ ds => decide (uptoBulkAll ds ≤ 1048576)
def OpenSpec.upto (s : _root_.Go.ChangeSpec) : _root_.Go.OpenSpec := { _root_.Go.OpenSpec.ofChange s with cond := some uptoSmall }

/-- 'mapsheetslaw43.TerrainChecks', WHERE WHAT IT READS IS OF BULK AT MOST 1048576: true; the input reads as it did. -/
def terrainChecksUptoRow : OpenClaim := { program := "ytachglfhgcdobaa", sum := "ce21d52d4d2a249bf030c0f4c17812ab485c09aaa2dd940bb29a13a3bc7d2737", func := "mapsheets/mapsheetslaw43.TerrainChecks", spec := "terrainChecks", unfollowed := true, recurses := true, apart := false, narrowed := true }
def TerrainChecksUptoSaid : Prop := terrainChecksUptoRow.holds Try.pinned (OpenSpec.upto terrainChecksSpec)

/-- 'mapsheetslaw43.TerrainHeights', WHERE WHAT IT READS IS OF BULK AT MOST 1048576: true; the input reads as it did. -/
def terrainHeightsUptoRow : OpenClaim := { program := "ytachglfhgcdobaa", sum := "ce21d52d4d2a249bf030c0f4c17812ab485c09aaa2dd940bb29a13a3bc7d2737", func := "mapsheets/mapsheetslaw43.TerrainHeights", spec := "terrainHeights", unfollowed := true, recurses := true, apart := false, narrowed := true }
def TerrainHeightsUptoSaid : Prop := terrainHeightsUptoRow.holds Try.pinned (OpenSpec.upto terrainHeightsSpec)

/-- 'mapsheetslaw43.TerrainPeaks', WHERE WHAT IT READS IS OF BULK AT MOST 1048576: true; the input reads as it did. -/
def terrainPeaksUptoRow : OpenClaim := { program := "ytachglfhgcdobaa", sum := "ce21d52d4d2a249bf030c0f4c17812ab485c09aaa2dd940bb29a13a3bc7d2737", func := "mapsheets/mapsheetslaw43.TerrainPeaks", spec := "terrainPeaks", unfollowed := true, recurses := true, apart := false, narrowed := true }
def TerrainPeaksUptoSaid : Prop := terrainPeaksUptoRow.holds Try.pinned (OpenSpec.upto terrainPeaksSpec)

/-- 'mapsheetslaw43.TerrainRises', WHERE WHAT IT READS IS OF BULK AT MOST 1048576: true; the input reads as it did. -/
def terrainRisesUptoRow : OpenClaim := { program := "ytachglfhgcdobaa", sum := "ce21d52d4d2a249bf030c0f4c17812ab485c09aaa2dd940bb29a13a3bc7d2737", func := "mapsheets/mapsheetslaw43.TerrainRises", spec := "terrainRises", unfollowed := true, recurses := true, apart := false, narrowed := true }
def TerrainRisesUptoSaid : Prop := terrainRisesUptoRow.holds Try.pinned (OpenSpec.upto terrainRisesSpec)

/-- 'mapsheetslaw43.TerrainMoves', WHERE WHAT IT READS IS OF BULK AT MOST 1048576: true; the input reads as it did. -/
def terrainMovesUptoRow : OpenClaim := { program := "ytachglfhgcdobaa", sum := "ce21d52d4d2a249bf030c0f4c17812ab485c09aaa2dd940bb29a13a3bc7d2737", func := "mapsheets/mapsheetslaw43.TerrainMoves", spec := "terrainMoves", unfollowed := true, recurses := true, apart := false, narrowed := true }
def TerrainMovesUptoSaid : Prop := terrainMovesUptoRow.holds Try.pinned (OpenSpec.upto terrainMovesSpec)

/-- 'mapsheetslaw43.TerrainBetween', WHERE WHAT IT READS IS OF BULK AT MOST 1048576: true; the input reads as it did. -/
def terrainBetweenUptoRow : OpenClaim := { program := "ytachglfhgcdobaa", sum := "ce21d52d4d2a249bf030c0f4c17812ab485c09aaa2dd940bb29a13a3bc7d2737", func := "mapsheets/mapsheetslaw43.TerrainBetween", spec := "terrainBetween", unfollowed := true, recurses := true, apart := false, narrowed := true }
def TerrainBetweenUptoSaid : Prop := terrainBetweenUptoRow.holds Try.pinned (OpenSpec.upto terrainBetweenSpec)

end Rows
end Go.Proofs.Ytachglfhgcdobaa
