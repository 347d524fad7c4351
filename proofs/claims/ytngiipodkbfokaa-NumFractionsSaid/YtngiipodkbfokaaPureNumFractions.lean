/- The pure statement of the law NumFractions: what is left of it when the program is taken out. -/
import Derived.Test.YtngiipodkbfokaaLibAwake01
import Derived.Test.YtngiipodkbfokaaLibFcmp
import Derived.Test.YtngiipodkbfokaaLibFrac
import Derived.Test.YtngiipodkbfokaaLibFracl
import Derived.Test.YtngiipodkbfokaaLibNum
import Derived.Test.YtngiipodkbfokaaLibRef01
import Derived.Test.YtngiipodkbfokaaPAllx18
namespace Go.Proofs.Ytngiipodkbfokaa.Pure
open Go.RowKit Go.Proofs.Ytngiipodkbfokaa.PAll Go.Proofs.YtngiipodkbfokaaW.PrintWords Go.Proofs.YtngiipodkbfokaaW.PrintLast
theorem u16wf {a : Int} (h : (Lit.int .u16 a).wf = true) : 0 ≤ a ∧ a ≤ 65535 := by
  simp only [Lit.wf, IntKind.min, IntKind.max, IntKind.signed, IntKind.bits, Bool.and_eq_true] at h
  exact ⟨by have := h.1; simpa using this, by have := h.2; simp at this; omega⟩
theorem NumFractions : mapsheetslaw01_NumFractions.Pure := by
  intro a b c wa wb wc
  have ha := i64wf wa
  have hb := i64wf wb
  have hc := u16wf wc
  suffices h : ∀ k, 9223372036854775820 ≤ k → mapsheetslaw01_NumFractions.f k a b c = some true from ⟨9223372036854775820, h _ (Nat.le_refl _)⟩
  intro k hk
  obtain ⟨k, rfl⟩ : ∃ j, k = j + 2 := ⟨k - 2, by omega⟩
  unfold mapsheetslaw01_NumFractions.f
  rw [num_Make_eq ha hb _ (by omega), Option.bind_some, ref01_Make_eq ha hb _ (by omega), Option.bind_some, beq_self_eq_true, beq_self_eq_true, bne_self_eq_false, if_neg (by decide)]
  simp only [mapsheetslaw01_NumFractions.j0]
  rw [if_neg (by decide)]
  by_cases h0 : (makeS a b).2.2 = 0
  case neg =>
    rw [if_neg h0, awake_eq _ (by omega), Option.bind_some, if_pos rfl, (makeS_err h0).1, (makeS_err h0).2]; rfl
  rw [if_pos h0]
  have hv := makeS_valid h0
  obtain ⟨_, hm⟩ := makeS_ok h0
  obtain ⟨hn64, hd64⟩ := makeS_range a b
  generalize makeS a b = F at *
  obtain ⟨n, d, e⟩ := F
  dsimp only at *
  have hj1t : ∀ m, mapsheetslaw01_NumFractions.j1 (k + 1) m true n d = some true := by
    intro m
    simp only [mapsheetslaw01_NumFractions.j1]
    rw [if_pos trivial, awake_eq _ (by omega), Option.bind_some, if_pos rfl, ref01_Valid_eq hn64 hd64 _ (by omega), Option.bind_some, hv]
  obtain ⟨m, hm'⟩ : ∃ m, m = wrap64 (1 + Int.tmod (wrap64 c) 1000) := ⟨_, rfl⟩
  have hmr : 1 ≤ m ∧ m ≤ 1000 := by
    rw [hm', w64 (x := c) (by omega), Int.tmod_eq_emod_of_nonneg hc.1]; unfold wrap64; omega
  rw [← hm']
  by_cases c1 : n > 1099511627776
  · rw [if_pos c1, hj1t]
  rw [if_neg c1]
  by_cases c2 : n < -1099511627776
  · rw [if_pos c2, hj1t]
  rw [if_neg c2]
  by_cases c3 : d > 1099511627776
  · rw [decide_eq_true c3, hj1t]
  rw [decide_eq_false c3]
  have hd0 : 0 < d := (of_decide_eq_true hv).1
  simp only [mapsheetslaw01_NumFractions.j1]
  have b1 : -1099511627776000 ≤ m * n ∧ m * n ≤ 1099511627776000 := by
    by_cases hp : 0 ≤ n
    · have x1 : 0 ≤ m * n := Int.mul_nonneg (by omega) hp
      have x2 : m * n ≤ 1000 * n := Int.mul_le_mul_of_nonneg_right hmr.2 hp
      omega
    · have x1 : m * n ≤ 0 := Int.mul_nonpos_of_nonneg_of_nonpos (by omega) (by omega)
      have x2 : m * (-n) ≤ 1000 * (-n) := Int.mul_le_mul_of_nonneg_right hmr.2 (by omega)
      rw [Int.mul_neg] at x2
      omega
  have b2 : 0 ≤ m * d ∧ m * d ≤ 1099511627776000 := by
    have x1 : 0 ≤ m * d := Int.mul_nonneg (by omega) (by omega)
    have x2 : m * d ≤ 1000 * d := Int.mul_le_mul_of_nonneg_right hmr.2 (by omega)
    omega
  have e1 : wrap64 (wrap64 (-m) * n) = -(m * n) := by rw [w64 (x := -m) (by omega), Int.neg_mul, w64 (by omega)]
  have e2 : wrap64 (wrap64 (-m) * d) = -(m * d) := by rw [w64 (x := -m) (by omega), Int.neg_mul, w64 (by omega)]
  rw [if_neg (by decide), e1, e2, num_Make_eq (by omega) (by omega) _ (by omega), Option.bind_some, makeS_scaled (by omega) hv (by omega) (by omega), awake_eq _ (by omega), Option.bind_some, if_pos rfl, ref01_Valid_eq hn64 hd64 _ (by omega), Option.bind_some, hv, if_pos rfl]
  dsimp only
  rw [beq_self_eq_true, beq_self_eq_true, if_pos (by decide)]; rfl
end Go.Proofs.Ytngiipodkbfokaa.Pure
