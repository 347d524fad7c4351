/- Plain lemmas on the printed functions: numbers and lists alone, no program and no memory. -/
import Derived.Test.YtflpllnkjboidaaPAllx1
import Derived.Test.YtflpllnkjboidaaPAllx8
namespace Go.Proofs.Ytflpllnkjboidaa.PAll
open Go.RowKit Go.Proofs.YtflpllnkjboidaaW.PrintWords Go.Proofs.YtflpllnkjboidaaW.PrintLast
set_option linter.unusedVariables false
/-- The chapter's examples hold. -/
theorem awake_eq (k : Nat) (hk : 100 ≤ k) : mapsheetslaw45_awake.f k = some true := by
  have h : mapsheetslaw45_awake.f 100 = some true := by kernel_rfl
  exact at_rounds (g := fun k => mapsheetslaw45_awake.f k) (fun k => mapsheetslaw45_awake.mono k) hk h
theorem fair_eq (x y c r s : Int) (l : List Int) : mapsheetslaw45_fair.f x y c r s l = some (decide ((l.length : Int) ≤ 4200)) := rfl
end Go.Proofs.Ytflpllnkjboidaa.PAll
