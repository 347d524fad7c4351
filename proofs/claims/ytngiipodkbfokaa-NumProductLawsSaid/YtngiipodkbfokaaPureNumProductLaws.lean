/- The pure statement of the law NumProductLaws: what is left of it when the program is taken out. -/
import Derived.Test.YtngiipodkbfokaaLibAwake01
import Derived.Test.YtngiipodkbfokaaLibBits
import Derived.Test.YtngiipodkbfokaaLibDiv
import Derived.Test.YtngiipodkbfokaaLibMuldiv
import Derived.Test.YtngiipodkbfokaaLibNum
import Derived.Test.YtngiipodkbfokaaLibNum2
import Derived.Test.YtngiipodkbfokaaLibRef01
import Derived.Test.YtngiipodkbfokaaPAllx16
namespace Go.Proofs.Ytngiipodkbfokaa.Pure
open Go.RowKit Go.Proofs.Ytngiipodkbfokaa.PAll Go.Proofs.YtngiipodkbfokaaW.PrintWords Go.Proofs.YtngiipodkbfokaaW.PrintLast
theorem one_floor {a b : Int} (ha : -9223372036854775808 ≤ a ∧ a ≤ 9223372036854775807) (hb : -9223372036854775808 ≤ b ∧ b ≤ 9223372036854775807) : mulDivS a 1 b = floorS a b := by
  unfold mulDivS floorS
  by_cases h0 : b = 0
  · rw [if_pos h0, if_pos h0]
  · rw [if_neg h0, if_neg h0]
    obtain ⟨f1, f2, f3⟩ := flr_abs a b h0
    obtain ⟨q1, q2, q3, q4⟩ := abs_div_lt ha hb h0
    rw [show (1 : Int).natAbs = 1 from rfl, Nat.mul_one]
    have hdm := Nat.mod_add_div a.natAbs b.natAbs
    have hz : a = 0 → a.natAbs / b.natAbs = 0 ∧ a.natAbs % b.natAbs = 0 := by intro h; subst h; simp
    generalize hQ : a.natAbs / b.natAbs = Q at *
    generalize hR : a.natAbs % b.natAbs = R at *
    have hneg : a ≠ 0 → negOf a 1 b = minusOf a b := by
      intro hn
      unfold negOf minusOf
      rw [decide_eq_false (show ¬ (1 : Int) < 0 by decide)]
      by_cases h1 : a < 0 <;> by_cases h2 : b < 0
      · rw [decide_eq_true h1, decide_eq_true h2, decide_eq_false (by omega)]; rfl
      · rw [decide_eq_true h1, decide_eq_false h2, decide_eq_true (by omega)]; rfl
      · rw [decide_eq_false h1, decide_eq_true h2, decide_eq_true (by omega)]; rfl
      · rw [decide_eq_false h1, decide_eq_false h2, decide_eq_false (by omega)]; rfl
    by_cases hx : a = -9223372036854775808 ∧ b = -1
    · have h4 := q4 hx
      rw [if_pos hx, hneg (by omega), h4.2]
      unfold mulDivN
      rw [if_neg (by decide), if_neg (by omega)]
    · rw [if_neg hx]
      by_cases ha0 : a = 0
      · have hm : minusOf a b = false := by unfold minusOf; rw [decide_eq_false (by omega)]
        have h1 := f1 hm
        obtain ⟨z1, z2⟩ := hz ha0
        subst z1; subst z2
        unfold mulDivN
        rw [h1.1]
        cases negOf a 1 b
        · rfl
        · rfl
      · rw [hneg ha0]
        unfold mulDivN
        cases hm : minusOf a b with
        | false =>
          have hq : ¬ ((Q : Int) = 9223372036854775808) := fun h => hx (q3 hm (by omega))
          rw [if_neg (by decide), if_pos (by omega), (f1 hm).1]
        | true =>
          rw [if_pos rfl]
          by_cases hr : R = 0
          · rw [if_pos (show (R : Int) = 0 by omega), if_pos (by omega), (f2 hm hr).1]
            refine Prod.ext ?_ rfl; show -((Q : Int) + 0) = _; omega
          · have := q2 hr
            rw [if_neg (show ¬ (R : Int) = 0 by omega), if_pos (by omega), (f3 hm hr).1]
            refine Prod.ext ?_ rfl; show -((Q : Int) + 1) = _; omega
theorem same_back {a b : Int} (ha : -9223372036854775808 ≤ a ∧ a ≤ 9223372036854775807) : mulDivS a b b = if b = 0 then (0, 21) else (a, 0) := by
  unfold mulDivS
  by_cases h0 : b = 0
  · rw [if_pos h0, if_pos h0]
  · rw [if_neg h0, if_neg h0, Nat.mul_div_cancel _ (show 0 < b.natAbs by omega), Nat.mul_mod_left]
    have hn : negOf a b b = decide (a < 0) := by
      unfold negOf; cases decide (a < 0) <;> cases decide (b < 0) <;> rfl
    rw [hn]
    unfold mulDivN
    by_cases h1 : a < 0
    · rw [decide_eq_true h1, if_pos rfl, if_pos (show ((0 : Nat) : Int) = 0 from rfl), if_pos (by omega)]
      refine Prod.ext ?_ rfl; show -((a.natAbs : Int) + 0) = _; omega
    · rw [decide_eq_false h1, if_neg (by decide), if_pos (by omega)]
      refine Prod.ext ?_ rfl; show (a.natAbs : Int) = _; omega
theorem NumProductLaws : mapsheetslaw01_NumProductLaws.Pure := by
  intro a b wa wb
  have ha := i64wf wa
  have hb := i64wf wb
  suffices h : ∀ k, 301 ≤ k → mapsheetslaw01_NumProductLaws.f k a b = some true from ⟨301, h _ (Nat.le_refl _)⟩
  intro k hk
  obtain ⟨k, rfl⟩ : ∃ j, k = j + 1 := ⟨k - 1, by omega⟩
  unfold mapsheetslaw01_NumProductLaws.f
  rw [num_MulDiv_eq ha (by decide) hb _ (by omega), Option.bind_some, num_Floor_eq ha hb _ (by omega), Option.bind_some, one_floor ha hb, if_pos rfl, bne_self_eq_false]
  simp only [mapsheetslaw01_NumProductLaws.j0]
  rw [if_neg (by decide), num_MulDiv_eq ha hb hb _ (by omega), Option.bind_some, same_back ha]
  by_cases h0 : b = 0
  · rw [if_pos h0, if_pos h0, awake_eq k (by omega), Option.bind_some]; rfl
  · rw [if_neg h0, if_neg h0, awake_eq k (by omega), Option.bind_some, if_pos rfl, if_pos rfl]; rfl
end Go.Proofs.Ytngiipodkbfokaa.Pure
