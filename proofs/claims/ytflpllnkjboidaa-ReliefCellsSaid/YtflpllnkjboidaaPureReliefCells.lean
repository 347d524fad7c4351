/- The pure statement of the law ReliefCells: what is left of it when the program is taken out. -/
import Derived.Test.YtflpllnkjboidaaLibAwake45
import Derived.Test.YtflpllnkjboidaaLibGrid
import Derived.Test.YtflpllnkjboidaaLibRelief2
import Derived.Test.YtflpllnkjboidaaPAllx13
namespace Go.Proofs.Ytflpllnkjboidaa.Pure
open Go.RowKit Go.Proofs.Ytflpllnkjboidaa.PAll Go.Proofs.YtflpllnkjboidaaW.PrintWords Go.Proofs.YtflpllnkjboidaaW.PrintLast
theorem ReliefCells : mapsheetslaw45_ReliefCells.Pure := by
  intro x y c r s l a b w1 w2 w3 w4 w5 w6 w7 w8 w9
  have ha := i64wf w8
  have hb := i64wf w9
  suffices h : ∀ k, 4300 ≤ k → mapsheetslaw45_ReliefCells.f k x y c r s l a b = some true from ⟨4300, h _ (Nat.le_refl _)⟩
  intro k hk
  unfold mapsheetslaw45_ReliefCells.f
  rw [fair_eq, Option.bind_some]
  by_cases hl : (l.length : Int) ≤ 4200
  · rw [if_pos (decide_eq_true hl), relief_Slope_eq x y c r s l (by omega) a b k (by omega), Option.bind_some, ref45_Slope_eq x y c r s l (by omega) ha hb k (by omega), Option.bind_some, relief_Shade_eq x y c r s l (by omega) a b k (by omega), Option.bind_some, ref45_Shade_eq x y c r s l (by omega) ha hb k (by omega), Option.bind_some,
      if_pos rfl, if_pos rfl, if_pos rfl, if_pos rfl, if_pos rfl, awake_eq k (by omega), Option.bind_some]
  · rw [if_neg (by rw [decide_eq_true_eq]; exact hl), awake_eq k (by omega), Option.bind_some]
end Go.Proofs.Ytflpllnkjboidaa.Pure
