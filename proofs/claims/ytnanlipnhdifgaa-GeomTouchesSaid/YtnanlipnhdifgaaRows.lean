/-
  No cell of these rows narrows 'for every input' (looked for: loops, veiled, ifaces, maps, wideKeys, modest, calm, conditions, laid).
  DERIVED. THE GIVEN ROWS OF THIS SEAT. 8 by the template 'for every input the law returns true; each argument reads behind the call as it read before'; 0 by the template 'total and deterministic' (their statements: YtnanlipnhdifgaaTotals.lean).
  GIVEN WITH THE SEED: the statements are not yours to turn. If you find one false, say at which input.
  Laid BY PROGRAM, IN A SANDBOX (cutbox-rows.mjs): the forced cells as the released guide's own fill.sh prints them over the translation 4797dd7c579db379… (all of the seat's roots in one cut). By AI agents, Wed Nov 11 2026. No macro, syntax, notation, axiom, sorry.
-/
import Derived.Test.YtnanlipnhdifgaaChecked
import GoSem.Claim
import GoSem.ClaimJoined
import GoSem.ClaimMapViews
import Derived.JoinedTies
import Derived.KernelRfl
namespace Go.Proofs.Ytnanlipnhdifgaa
/- THE CELL 'sum', in the pinned program and in every row, IS THE sha256 OF THE DUMP (.gsa) THAT YtnanlipnhdifgaaProg.lean LOADS. Nothing in Lean hashes anything: it is a label: what it is worth is what the hold of that sum in a sandbox is worth. -/
noncomputable def Try.pinned : Pinned := { name := "ytnanlipnhdifgaa", sum := "4797dd7c579db3797a3c9e25ee80f565af46994aa12ef507af6a51ce8f76b65f", checked := Try.checked }
namespace Rows
def none {H : Type} : Left H := { results := [], args := [] }

/-- 'mapsheetslaw08.GeomTurns': WHATEVER THE INPUT: true; the input reads as it did. -/
def geomTurnsSpec : ChangeSpec := { name := "geomTurns", fn := fun _ => fun
  | [d1, d2, d3] => { results := [.lit (.bool true)], args := [d1, d2, d3] }
  | _ => none }
def geomTurnsRow : OpenClaim := { program := "ytnanlipnhdifgaa", sum := "4797dd7c579db3797a3c9e25ee80f565af46994aa12ef507af6a51ce8f76b65f", func := "mapsheets/mapsheetslaw08.GeomTurns", spec := "geomTurns", named := ["math/bits.divideError", "math/bits.overflowError"], apart := false }
def GeomTurnsSaid : Prop := geomTurnsRow.holds Try.pinned (OpenSpec.ofChange geomTurnsSpec)

/-- ITS FALSE NEIGHBOUR: 'it returns false'. Refute it at one input. -/
def geomTurnsWrong : ChangeSpec := { name := "geomTurns", fn := fun _ => fun
  | [d1, d2, d3] => { results := [.lit (.bool false)], args := [d1, d2, d3] }
  | _ => none }
def GeomTurnsWrongFalsely : Prop := geomTurnsRow.holds Try.pinned (OpenSpec.ofChange geomTurnsWrong)

/-- 'mapsheetslaw08.GeomMeets': WHATEVER THE INPUT: true; the input reads as it did. -/
def geomMeetsSpec : ChangeSpec := { name := "geomMeets", fn := fun _ => fun
  | [d1, d2, d3, d4] => { results := [.lit (.bool true)], args := [d1, d2, d3, d4] }
  | _ => none }
def geomMeetsRow : OpenClaim := { program := "ytnanlipnhdifgaa", sum := "4797dd7c579db3797a3c9e25ee80f565af46994aa12ef507af6a51ce8f76b65f", func := "mapsheets/mapsheetslaw08.GeomMeets", spec := "geomMeets", named := ["math/bits.divideError", "math/bits.overflowError"], apart := false }
def GeomMeetsSaid : Prop := geomMeetsRow.holds Try.pinned (OpenSpec.ofChange geomMeetsSpec)

/-- ITS FALSE NEIGHBOUR: 'it returns false'. Refute it at one input. -/
def geomMeetsWrong : ChangeSpec := { name := "geomMeets", fn := fun _ => fun
  | [d1, d2, d3, d4] => { results := [.lit (.bool false)], args := [d1, d2, d3, d4] }
  | _ => none }
def GeomMeetsWrongFalsely : Prop := geomMeetsRow.holds Try.pinned (OpenSpec.ofChange geomMeetsWrong)

/-- 'mapsheetslaw08.GeomOrder': WHATEVER THE INPUT: true; the input reads as it did. -/
def geomOrderSpec : ChangeSpec := { name := "geomOrder", fn := fun _ => fun
  | [d1, d2, d3, d4] => { results := [.lit (.bool true)], args := [d1, d2, d3, d4] }
  | _ => none }
def geomOrderRow : OpenClaim := { program := "ytnanlipnhdifgaa", sum := "4797dd7c579db3797a3c9e25ee80f565af46994aa12ef507af6a51ce8f76b65f", func := "mapsheets/mapsheetslaw08.GeomOrder", spec := "geomOrder", named := ["math/bits.divideError", "math/bits.overflowError"], apart := false }
def GeomOrderSaid : Prop := geomOrderRow.holds Try.pinned (OpenSpec.ofChange geomOrderSpec)

/-- ITS FALSE NEIGHBOUR: 'it returns false'. Refute it at one input. -/
def geomOrderWrong : ChangeSpec := { name := "geomOrder", fn := fun _ => fun
  | [d1, d2, d3, d4] => { results := [.lit (.bool false)], args := [d1, d2, d3, d4] }
  | _ => none }
def GeomOrderWrongFalsely : Prop := geomOrderRow.holds Try.pinned (OpenSpec.ofChange geomOrderWrong)

/-- 'mapsheetslaw08.GeomDists': WHATEVER THE INPUT: true; the input reads as it did. -/
def geomDistsSpec : ChangeSpec := { name := "geomDists", fn := fun _ => fun
  | [d1, d2, d3] => { results := [.lit (.bool true)], args := [d1, d2, d3] }
  | _ => none }
def geomDistsRow : OpenClaim := { program := "ytnanlipnhdifgaa", sum := "4797dd7c579db3797a3c9e25ee80f565af46994aa12ef507af6a51ce8f76b65f", func := "mapsheets/mapsheetslaw08.GeomDists", spec := "geomDists", named := ["math/bits.divideError", "math/bits.overflowError"], apart := false }
def GeomDistsSaid : Prop := geomDistsRow.holds Try.pinned (OpenSpec.ofChange geomDistsSpec)

/-- ITS FALSE NEIGHBOUR: 'it returns false'. Refute it at one input. -/
def geomDistsWrong : ChangeSpec := { name := "geomDists", fn := fun _ => fun
  | [d1, d2, d3] => { results := [.lit (.bool false)], args := [d1, d2, d3] }
  | _ => none }
def GeomDistsWrongFalsely : Prop := geomDistsRow.holds Try.pinned (OpenSpec.ofChange geomDistsWrong)

/-- 'mapsheetslaw08.GeomBoxes': WHATEVER THE INPUT: true; the input reads as it did. -/
def geomBoxesSpec : ChangeSpec := { name := "geomBoxes", fn := fun _ => fun
  | [d1, d2, d3] => { results := [.lit (.bool true)], args := [d1, d2, d3] }
  | _ => none }
def geomBoxesRow : OpenClaim := { program := "ytnanlipnhdifgaa", sum := "4797dd7c579db3797a3c9e25ee80f565af46994aa12ef507af6a51ce8f76b65f", func := "mapsheets/mapsheetslaw08.GeomBoxes", spec := "geomBoxes", named := ["math/bits.divideError", "math/bits.overflowError"], apart := false }
def GeomBoxesSaid : Prop := geomBoxesRow.holds Try.pinned (OpenSpec.ofChange geomBoxesSpec)

/-- ITS FALSE NEIGHBOUR: 'it returns false'. Refute it at one input. -/
def geomBoxesWrong : ChangeSpec := { name := "geomBoxes", fn := fun _ => fun
  | [d1, d2, d3] => { results := [.lit (.bool false)], args := [d1, d2, d3] }
  | _ => none }
def GeomBoxesWrongFalsely : Prop := geomBoxesRow.holds Try.pinned (OpenSpec.ofChange geomBoxesWrong)

/-- 'mapsheetslaw08.GeomSplits': WHATEVER THE INPUT: true; the input reads as it did. -/
def geomSplitsSpec : ChangeSpec := { name := "geomSplits", fn := fun _ => fun
  | [d1, d2, d3, d4] => { results := [.lit (.bool true)], args := [d1, d2, d3, d4] }
  | _ => none }
def geomSplitsRow : OpenClaim := { program := "ytnanlipnhdifgaa", sum := "4797dd7c579db3797a3c9e25ee80f565af46994aa12ef507af6a51ce8f76b65f", func := "mapsheets/mapsheetslaw08.GeomSplits", spec := "geomSplits", named := ["math/bits.divideError", "math/bits.overflowError"], apart := false }
def GeomSplitsSaid : Prop := geomSplitsRow.holds Try.pinned (OpenSpec.ofChange geomSplitsSpec)

/-- ITS FALSE NEIGHBOUR: 'it returns false'. Refute it at one input. -/
def geomSplitsWrong : ChangeSpec := { name := "geomSplits", fn := fun _ => fun
  | [d1, d2, d3, d4] => { results := [.lit (.bool false)], args := [d1, d2, d3, d4] }
  | _ => none }
def GeomSplitsWrongFalsely : Prop := geomSplitsRow.holds Try.pinned (OpenSpec.ofChange geomSplitsWrong)

/-- 'mapsheetslaw08.GeomRigid': WHATEVER THE INPUT: true; the input reads as it did. -/
def geomRigidSpec : ChangeSpec := { name := "geomRigid", fn := fun _ => fun
  | [d1, d2, d3, d4, d5] => { results := [.lit (.bool true)], args := [d1, d2, d3, d4, d5] }
  | _ => none }
def geomRigidRow : OpenClaim := { program := "ytnanlipnhdifgaa", sum := "4797dd7c579db3797a3c9e25ee80f565af46994aa12ef507af6a51ce8f76b65f", func := "mapsheets/mapsheetslaw08.GeomRigid", spec := "geomRigid", named := ["math/bits.divideError", "math/bits.overflowError"], apart := false }
def GeomRigidSaid : Prop := geomRigidRow.holds Try.pinned (OpenSpec.ofChange geomRigidSpec)

/-- ITS FALSE NEIGHBOUR: 'it returns false'. Refute it at one input. -/
def geomRigidWrong : ChangeSpec := { name := "geomRigid", fn := fun _ => fun
  | [d1, d2, d3, d4, d5] => { results := [.lit (.bool false)], args := [d1, d2, d3, d4, d5] }
  | _ => none }
def GeomRigidWrongFalsely : Prop := geomRigidRow.holds Try.pinned (OpenSpec.ofChange geomRigidWrong)

/-- 'mapsheetslaw08.GeomTouches': WHATEVER THE INPUT: true; the input reads as it did. -/
def geomTouchesSpec : ChangeSpec := { name := "geomTouches", fn := fun _ => fun
  | [d1, d2, d3, d4] => { results := [.lit (.bool true)], args := [d1, d2, d3, d4] }
  | _ => none }
def geomTouchesRow : OpenClaim := { program := "ytnanlipnhdifgaa", sum := "4797dd7c579db3797a3c9e25ee80f565af46994aa12ef507af6a51ce8f76b65f", func := "mapsheets/mapsheetslaw08.GeomTouches", spec := "geomTouches", named := ["math/bits.divideError", "math/bits.overflowError"], apart := false }
def GeomTouchesSaid : Prop := geomTouchesRow.holds Try.pinned (OpenSpec.ofChange geomTouchesSpec)

/-- ITS FALSE NEIGHBOUR: 'it returns false'. Refute it at one input. -/
def geomTouchesWrong : ChangeSpec := { name := "geomTouches", fn := fun _ => fun
  | [d1, d2, d3, d4] => { results := [.lit (.bool false)], args := [d1, d2, d3, d4] }
  | _ => none }
def GeomTouchesWrongFalsely : Prop := geomTouchesRow.holds Try.pinned (OpenSpec.ofChange geomTouchesWrong)

/- THE SECOND FORM. 'bulk': how many values and letters a reading holds, each counted each time it is reached (what is shared counts as often as it is met; a slice's spare places count too). A statement '..UptoSaid' is the law's where the arguments, and the package variables that the reading takes, are together of bulk at most 1048576: NARROWER than '..Said'. Prove '..Said' where nothing that the law and all that it calls make is longer than what came in: it says more and counts as full. Else prove '..UptoSaid'. A law counts once. -/
mutual
def uptoBulk {H : Type} : DataW H → Nat
  | .lit (.string bytes) => bytes.length + 1
  | .lit _ => 1
  | .nil => 1
  | .ptr d => uptoBulk d + 1
  | .slice elems spare => uptoBulkAll elems + uptoBulkAll spare + 1
  | .agg parts => uptoBulkAll parts + 1
  | .iface _ d => uptoBulk d + 1
  | .map entries => uptoBulkEntries entries + 1
  | .held _ => 1
def uptoBulkAll {H : Type} : List (DataW H) → Nat
  | [] => 0
  | d :: r => uptoBulk d + uptoBulkAll r
def uptoBulkEntries {H : Type} : List (Lit × DataW H) → Nat
  | [] => 0
  | x :: r => uptoBulkEntry x + uptoBulkEntries r
def uptoBulkEntry {H : Type} : Lit × DataW H → Nat
  | (.string bytes, d) => bytes.length + uptoBulk d + 1
  | (_, d) => uptoBulk d + 1
 end
def uptoSmall : (H : Type) → List (DataW H) → Bool := fun _ ds => decide (uptoBulkAll ds ≤ 1048576)
def OpenSpec.upto (s : _root_.Go.ChangeSpec) : _root_.Go.OpenSpec := { _root_.Go.OpenSpec.ofChange s with cond := some uptoSmall }

/-- 'mapsheetslaw08.GeomTurns', WHERE WHAT IT READS IS OF BULK AT MOST 1048576: true; the input reads as it did. -/
def geomTurnsUptoRow : OpenClaim := { program := "ytnanlipnhdifgaa", sum := "4797dd7c579db3797a3c9e25ee80f565af46994aa12ef507af6a51ce8f76b65f", func := "mapsheets/mapsheetslaw08.GeomTurns", spec := "geomTurns", named := ["math/bits.divideError", "math/bits.overflowError"], apart := false, narrowed := true }
def GeomTurnsUptoSaid : Prop := geomTurnsUptoRow.holds Try.pinned (OpenSpec.upto geomTurnsSpec)

/-- 'mapsheetslaw08.GeomMeets', WHERE WHAT IT READS IS OF BULK AT MOST 1048576: true; the input reads as it did. -/
def geomMeetsUptoRow : OpenClaim := { program := "ytnanlipnhdifgaa", sum := "4797dd7c579db3797a3c9e25ee80f565af46994aa12ef507af6a51ce8f76b65f", func := "mapsheets/mapsheetslaw08.GeomMeets", spec := "geomMeets", named := ["math/bits.divideError", "math/bits.overflowError"], apart := false, narrowed := true }
def GeomMeetsUptoSaid : Prop := geomMeetsUptoRow.holds Try.pinned (OpenSpec.upto geomMeetsSpec)

/-- 'mapsheetslaw08.GeomOrder', WHERE WHAT IT READS IS OF BULK AT MOST 1048576: true; the input reads as it did. -/
def geomOrderUptoRow : OpenClaim := { program := "ytnanlipnhdifgaa", sum := "4797dd7c579db3797a3c9e25ee80f565af46994aa12ef507af6a51ce8f76b65f", func := "mapsheets/mapsheetslaw08.GeomOrder", spec := "geomOrder", named := ["math/bits.divideError", "math/bits.overflowError"], apart := false, narrowed := true }
def GeomOrderUptoSaid : Prop := geomOrderUptoRow.holds Try.pinned (OpenSpec.upto geomOrderSpec)

/-- 'mapsheetslaw08.GeomDists', WHERE WHAT IT READS IS OF BULK AT MOST 1048576: true; the input reads as it did. -/
def geomDistsUptoRow : OpenClaim := { program := "ytnanlipnhdifgaa", sum := "4797dd7c579db3797a3c9e25ee80f565af46994aa12ef507af6a51ce8f76b65f", func := "mapsheets/mapsheetslaw08.GeomDists", spec := "geomDists", named := ["math/bits.divideError", "math/bits.overflowError"], apart := false, narrowed := true }
def GeomDistsUptoSaid : Prop := geomDistsUptoRow.holds Try.pinned (OpenSpec.upto geomDistsSpec)

/-- 'mapsheetslaw08.GeomBoxes', WHERE WHAT IT READS IS OF BULK AT MOST 1048576: true; the input reads as it did. -/
def geomBoxesUptoRow : OpenClaim := { program := "ytnanlipnhdifgaa", sum := "4797dd7c579db3797a3c9e25ee80f565af46994aa12ef507af6a51ce8f76b65f", func := "mapsheets/mapsheetslaw08.GeomBoxes", spec := "geomBoxes", named := ["math/bits.divideError", "math/bits.overflowError"], apart := false, narrowed := true }
def GeomBoxesUptoSaid : Prop := geomBoxesUptoRow.holds Try.pinned (OpenSpec.upto geomBoxesSpec)

/-- 'mapsheetslaw08.GeomSplits', WHERE WHAT IT READS IS OF BULK AT MOST 1048576: true; the input reads as it did. -/
def geomSplitsUptoRow : OpenClaim := { program := "ytnanlipnhdifgaa", sum := "4797dd7c579db3797a3c9e25ee80f565af46994aa12ef507af6a51ce8f76b65f", func := "mapsheets/mapsheetslaw08.GeomSplits", spec := "geomSplits", named := ["math/bits.divideError", "math/bits.overflowError"], apart := false, narrowed := true }
def GeomSplitsUptoSaid : Prop := geomSplitsUptoRow.holds Try.pinned (OpenSpec.upto geomSplitsSpec)

/-- 'mapsheetslaw08.GeomRigid', WHERE WHAT IT READS IS OF BULK AT MOST 1048576: true; the input reads as it did. -/
def geomRigidUptoRow : OpenClaim := { program := "ytnanlipnhdifgaa", sum := "4797dd7c579db3797a3c9e25ee80f565af46994aa12ef507af6a51ce8f76b65f", func := "mapsheets/mapsheetslaw08.GeomRigid", spec := "geomRigid", named := ["math/bits.divideError", "math/bits.overflowError"], apart := false, narrowed := true }
def GeomRigidUptoSaid : Prop := geomRigidUptoRow.holds Try.pinned (OpenSpec.upto geomRigidSpec)

/-- 'mapsheetslaw08.GeomTouches', WHERE WHAT IT READS IS OF BULK AT MOST 1048576: true; the input reads as it did. -/
def geomTouchesUptoRow : OpenClaim := { program := "ytnanlipnhdifgaa", sum := "4797dd7c579db3797a3c9e25ee80f565af46994aa12ef507af6a51ce8f76b65f", func := "mapsheets/mapsheetslaw08.GeomTouches", spec := "geomTouches", named := ["math/bits.divideError", "math/bits.overflowError"], apart := false, narrowed := true }
def GeomTouchesUptoSaid : Prop := geomTouchesUptoRow.holds Try.pinned (OpenSpec.upto geomTouchesSpec)

end Rows
end Go.Proofs.Ytnanlipnhdifgaa
