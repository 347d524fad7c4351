/- The pure statement of the law NumCompares: what is left of it when the program is taken out. -/
import Derived.Test.YtngiipodkbfokaaLibAwake01
import Derived.Test.YtngiipodkbfokaaLibFcmp
import Derived.Test.YtngiipodkbfokaaLibFrac
import Derived.Test.YtngiipodkbfokaaLibFracl
import Derived.Test.YtngiipodkbfokaaLibNum
import Derived.Test.YtngiipodkbfokaaLibRef01
import Derived.Test.YtngiipodkbfokaaLibRef01cmp
import Derived.Test.YtngiipodkbfokaaPAllx20
namespace Go.Proofs.Ytngiipodkbfokaa.Pure
open Go.RowKit Go.Proofs.Ytngiipodkbfokaa.PAll Go.Proofs.YtngiipodkbfokaaW.PrintWords Go.Proofs.YtngiipodkbfokaaW.PrintLast
theorem NumCompares : mapsheetslaw01_NumCompares.Pure := by
  intro n1 d1 n2 d2 w1 w2 w3 w4
  have h1 := i64wf w1
  have h2 := i64wf w2
  have h3 := i64wf w3
  have h4 := i64wf w4
  suffices h : ∀ k, 9223372036854775820 ≤ k → mapsheetslaw01_NumCompares.f k n1 d1 n2 d2 = some true from ⟨9223372036854775820, h _ (Nat.le_refl _)⟩
  intro k hk
  unfold mapsheetslaw01_NumCompares.f
  rw [num_Cmp_eq h1 h2 h3 h4 k hk, Option.bind_some, awake_eq k (by omega), Option.bind_some, if_pos rfl, ref01_Cmp_eq h1 h2 h3 h4 k hk, Option.bind_some, if_pos rfl, num_Cmp_eq h3 h4 h1 h2 k hk, Option.bind_some, cmpS_swap]
  have hr := cmpS_range n1 d1 n2 d2
  rw [if_pos (by rw [w64 (by omega)]), num_Cmp_eq h1 h2 h1 h2 k hk, Option.bind_some, cmpS_self]; rfl
end Go.Proofs.Ytngiipodkbfokaa.Pure
