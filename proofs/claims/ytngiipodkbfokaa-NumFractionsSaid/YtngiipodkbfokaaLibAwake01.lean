/- Plain lemmas on the printed functions: numbers and lists alone, no program and no memory. -/
import Derived.Test.YtngiipodkbfokaaPAllx11
namespace Go.Proofs.Ytngiipodkbfokaa.PAll
open Go.RowKit Go.Proofs.YtngiipodkbfokaaW.PrintWords Go.Proofs.YtngiipodkbfokaaW.PrintLast
set_option linter.unusedVariables false
/-- The chapter's examples hold. -/
theorem awake_eq (k : Nat) (hk : 100 ≤ k) : mapsheetslaw01_awake.f k = some true := by
  have h : mapsheetslaw01_awake.f 100 = some true := by kernel_rfl
  exact at_rounds (g := fun k => mapsheetslaw01_awake.f k) (fun k => mapsheetslaw01_awake.mono k) hk h
end Go.Proofs.Ytngiipodkbfokaa.PAll
