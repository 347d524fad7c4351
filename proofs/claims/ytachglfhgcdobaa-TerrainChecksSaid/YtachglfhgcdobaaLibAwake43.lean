/- Plain lemmas on the printed functions: numbers and lists alone, no program and no memory. -/
import Derived.Test.YtachglfhgcdobaaPAllx11
import Derived.Test.YtachglfhgcdobaaPAllx3
namespace Go.Proofs.Ytachglfhgcdobaa.PAll
open Go.RowKit Go.Proofs.YtachglfhgcdobaaW.PrintWords Go.Proofs.YtachglfhgcdobaaW.PrintLast
set_option linter.unusedVariables false
/-- The chapter's examples hold. -/
theorem awake_eq (k : Nat) (hk : 100 ≤ k) : mapsheetslaw43_awake.f k = some true := by
  have h : mapsheetslaw43_awake.f 100 = some true := by kernel_rfl
  exact at_rounds (g := fun k => mapsheetslaw43_awake.f k) (fun k => mapsheetslaw43_awake.mono k) hk h
theorem light_eq (x y c r s : Int) (l : List Int) : mapsheetslaw43_light.f x y c r s l = some (decide ((l.length : Int) ≤ 4200)) := rfl
end Go.Proofs.Ytachglfhgcdobaa.PAll
