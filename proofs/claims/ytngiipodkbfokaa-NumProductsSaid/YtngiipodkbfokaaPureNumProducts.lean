/- The pure statement of the law NumProducts: what is left of it when the program is taken out. -/
import Derived.Test.YtngiipodkbfokaaLibAwake01
import Derived.Test.YtngiipodkbfokaaLibBits
import Derived.Test.YtngiipodkbfokaaLibDiv
import Derived.Test.YtngiipodkbfokaaLibMuldiv
import Derived.Test.YtngiipodkbfokaaLibNum
import Derived.Test.YtngiipodkbfokaaLibNum2
import Derived.Test.YtngiipodkbfokaaLibRef01
import Derived.Test.YtngiipodkbfokaaLibRef01prod
import Derived.Test.YtngiipodkbfokaaPAllx15
namespace Go.Proofs.Ytngiipodkbfokaa.Pure
open Go.RowKit Go.Proofs.Ytngiipodkbfokaa.PAll Go.Proofs.YtngiipodkbfokaaW.PrintWords Go.Proofs.YtngiipodkbfokaaW.PrintLast
theorem NumProducts : mapsheetslaw01_NumProducts.Pure := by
  intro a b c wa wb wc
  have ha := i64wf wa
  have hb := i64wf wb
  have hc := i64wf wc
  suffices h : ∀ k, 300 ≤ k → mapsheetslaw01_NumProducts.f k a b c = some true from ⟨300, h _ (Nat.le_refl _)⟩
  intro k hk
  have hcomm : mulDivS b a c = mulDivS a b c := by
    unfold mulDivS negOf
    rw [Nat.mul_comm b.natAbs a.natAbs]
    have : ((decide (b < 0)) != (decide (a < 0))) = ((decide (a < 0)) != (decide (b < 0))) := by
      cases decide (a < 0) <;> cases decide (b < 0) <;> rfl
    rw [this]
  unfold mapsheetslaw01_NumProducts.f
  rw [num_MulDiv_eq ha hb hc k (by omega), Option.bind_some, num_MulDiv_eq hb ha hc k (by omega), Option.bind_some, ref01_MulDiv_eq ha hb hc k (by omega), Option.bind_some, awake_eq k (by omega), Option.bind_some, hcomm]
  rw [if_pos rfl, if_pos rfl, if_pos rfl, if_pos rfl, beq_self_eq_true]
end Go.Proofs.Ytngiipodkbfokaa.Pure
