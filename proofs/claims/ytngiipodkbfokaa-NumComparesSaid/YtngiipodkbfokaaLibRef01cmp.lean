/- Plain lemmas on the printed functions: numbers and lists alone, no program and no memory. -/
import Derived.Test.YtngiipodkbfokaaLibFcmp
import Derived.Test.YtngiipodkbfokaaLibRef01
import Derived.Test.YtngiipodkbfokaaPAllx19
namespace Go.Proofs.Ytngiipodkbfokaa.PAll
open Go.RowKit Go.Proofs.YtngiipodkbfokaaW.PrintWords Go.Proofs.YtngiipodkbfokaaW.PrintLast
set_option linter.unusedVariables false
/-! ### the reference's Cmp tells the same -/
theorem flr_pos {a b : Int} (hb : 0 < b) : a = flr a b * b + rst a b ∧ 0 ≤ rst a b ∧ rst a b < b := by
  obtain ⟨h, h1, _⟩ := flr_rst a b (by omega)
  exact ⟨h, h1 hb⟩
theorem floorS_pos {a b : Int} (hb : 0 < b) : floorS a b = (flr a b, 0) := by
  unfold floorS; rw [if_neg (by omega), if_neg (by omega)]
theorem cross_lt {n1 d1 n2 d2 q1 q2 r1 r2 : Int} (p1 : 0 < d1) (p2 : 0 < d2) (e1 : n1 = q1 * d1 + r1) (h1 : r1 < d1) (e2 : n2 = q2 * d2 + r2) (h2 : 0 ≤ r2) (hq : q1 < q2) : n1 * d2 < n2 * d1 := by
  have a1 : n1 < q2 * d1 := by
    have : (q1 + 1) * d1 ≤ q2 * d1 := Int.mul_le_mul_of_nonneg_right (by omega) (by omega)
    rw [Int.add_mul] at this; omega
  have a2 : n1 * d2 < q2 * d1 * d2 := Int.mul_lt_mul_of_pos_right a1 p2
  have a3 : q2 * d2 * d1 ≤ n2 * d1 := Int.mul_le_mul_of_nonneg_right (by omega) (by omega)
  have a4 : q2 * d1 * d2 = q2 * d2 * d1 := by rw [Int.mul_assoc, Int.mul_comm d1 d2, ← Int.mul_assoc]
  omega
theorem ref01_sign_eq (x y : Int) : mapsheetsref01_sign.f x y = some (sgn x y) := by
  unfold mapsheetsref01_sign.f sgn
  by_cases a : x < y
  · rw [if_pos a, if_pos a]
  · rw [if_neg a, if_neg a]
    by_cases b : x > y
    · rw [if_pos b, if_pos b]
    · rw [if_neg b, if_neg b]
theorem ref01_cmp_loop : ∀ (k : Nat) (n1 d1 n2 d2 : Int), (-9223372036854775808 ≤ n1 ∧ n1 ≤ 9223372036854775807) → (0 < d1 ∧ d1 ≤ 9223372036854775807) → (-9223372036854775808 ≤ n2 ∧ n2 ≤ 9223372036854775807) → (0 < d2 ∧ d2 ≤ 9223372036854775807) →
    d1.toNat + 1 ≤ k → d2.toNat + 1 ≤ k → mapsheetsref01_Cmp.l0 (k + 1) n1 d1 n2 d2 = some (sgn (n1 * d2) (n2 * d1))
  | 0, n1, d1, n2, d2, hn1, hd1, hn2, hd2, hk1, hk2 => by omega
  | k + 1, n1, d1, n2, d2, hn1, hd1, hn2, hd2, hk1, hk2 => by
    rw [mapsheetsref01_Cmp.l0]
    rw [ref01_Floor_eq hn1 (by omega) (k + 1) (by omega), Option.bind_some, ref01_Floor_eq hn2 (by omega) (k + 1) (by omega), Option.bind_some, floorS_pos hd1.1, floorS_pos hd2.1]
    obtain ⟨e1, l1, u1⟩ := flr_pos (a := n1) hd1.1
    obtain ⟨e2, l2, u2⟩ := flr_pos (a := n2) hd2.1
    show (if flr n1 d1 = flr n2 d2 then _ else _) = _
    have w1 : wrap64 (n1 - wrap64 (flr n1 d1 * d1)) = rst n1 d1 := by unfold wrap64; omega
    have w2 : wrap64 (n2 - wrap64 (flr n2 d2 * d2)) = rst n2 d2 := by unfold wrap64; omega
    by_cases hq : flr n1 d1 = flr n2 d2
    · rw [if_pos hq]
      dsimp only
      rw [w1, w2]
      have m1 : n1 * d2 = flr n1 d1 * d1 * d2 + rst n1 d1 * d2 := by
        have : n1 * d2 = (flr n1 d1 * d1 + rst n1 d1) * d2 := by rw [← e1]
        rw [this, Int.add_mul]
      have m2 : n2 * d1 = flr n1 d1 * d1 * d2 + rst n2 d2 * d1 := by
        have : n2 * d1 = (flr n2 d2 * d2 + rst n2 d2) * d1 := by rw [← e2]
        rw [this, Int.add_mul, ← hq, Int.mul_assoc (flr n1 d1) d2 d1, Int.mul_comm d2 d1, ← Int.mul_assoc]
      have z1 : rst n1 d1 = 0 → rst n1 d1 * d2 = 0 := fun h => by rw [h, Int.zero_mul]
      have z2 : rst n2 d2 = 0 → rst n2 d2 * d1 = 0 := fun h => by rw [h, Int.zero_mul]
      have y1 : 0 < rst n1 d1 → 0 < rst n1 d1 * d2 := fun h => Int.mul_pos h hd2.1
      have y2 : 0 < rst n2 d2 → 0 < rst n2 d2 * d1 := fun h => Int.mul_pos h hd1.1
      by_cases hr1 : rst n1 d1 = 0
      · rw [if_pos hr1, ref01_sign_eq, Option.bind_some]
        refine congrArg some (sgn_congr ?_ ?_)
        · have := z1 hr1
          by_cases hr2 : rst n2 d2 = 0
          · have := z2 hr2; omega
          · have := y2 (by omega); omega
        · have := z1 hr1
          by_cases hr2 : rst n2 d2 = 0
          · have := z2 hr2; omega
          · have := y2 (by omega); omega
      · rw [if_neg hr1]
        have := y1 (by omega)
        by_cases hr2 : rst n2 d2 = 0
        · have := z2 hr2
          rw [if_pos hr2, ref01_sign_eq, Option.bind_some]
          exact congrArg some (sgn_congr (by omega) (by omega))
        · rw [if_neg hr2, ref01_cmp_loop k d2 (rst n2 d2) d1 (rst n1 d1) (by omega) (by omega) (by omega) (by omega) (by omega) (by omega)]
          have c1 : d2 * rst n1 d1 = rst n1 d1 * d2 := Int.mul_comm _ _
          have c2 : d1 * rst n2 d2 = rst n2 d2 * d1 := Int.mul_comm _ _
          exact congrArg some (sgn_congr (by omega) (by omega))
    · rw [if_neg hq]
      dsimp only
      rw [ref01_sign_eq, Option.bind_some]
      refine congrArg some ?_
      by_cases hlt : flr n1 d1 < flr n2 d2
      · have := cross_lt hd1.1 hd2.1 e1 u1 e2 l2 hlt
        exact sgn_congr (by omega) (by omega)
      · have := cross_lt hd2.1 hd1.1 e2 u2 e1 l1 (by omega)
        exact sgn_congr (by omega) (by omega)
theorem ref01_Cmp_eq {n1 d1 n2 d2 : Int} (hn1 : -9223372036854775808 ≤ n1 ∧ n1 ≤ 9223372036854775807) (hd1 : -9223372036854775808 ≤ d1 ∧ d1 ≤ 9223372036854775807)
    (hn2 : -9223372036854775808 ≤ n2 ∧ n2 ≤ 9223372036854775807) (hd2 : -9223372036854775808 ≤ d2 ∧ d2 ≤ 9223372036854775807) (k : Nat) (hk : 9223372036854775820 ≤ k) :
    mapsheetsref01_Cmp.f k n1 d1 n2 d2 = some (cmpS n1 d1 n2 d2) := by
  obtain ⟨k, rfl⟩ : ∃ j, k = j + 2 := ⟨k - 2, by omega⟩
  have j0t : mapsheetsref01_Cmp.j0 (k + 2) true n1 d1 n2 d2 = some 0 := by simp only [mapsheetsref01_Cmp.j0]; rfl
  have j0f : mapsheetsref01_Cmp.j0 (k + 2) false n1 d1 n2 d2 = mapsheetsref01_Cmp.l0 (k + 1) n1 d1 n2 d2 := by
    simp only [mapsheetsref01_Cmp.j0]; rfl
  unfold mapsheetsref01_Cmp.f cmpS
  rw [ref01_Valid_eq hn1 hd1 _ (by omega), Option.bind_some]
  cases v1 : validS n1 d1 with
  | false => rw [if_neg (by decide), j0t, if_neg (fun h => by cases h.1)]
  | true =>
  rw [if_pos rfl, ref01_Valid_eq hn2 hd2 _ (by omega), Option.bind_some]
  cases v2 : validS n2 d2 with
  | false => rw [show (!false) = true from rfl, j0t, if_neg (fun h => by cases h.2)]
  | true =>
  have p1 : 0 < d1 := (of_decide_eq_true v1).1
  have p2 : 0 < d2 := (of_decide_eq_true v2).1
  rw [show (!true) = false from rfl, j0f, if_pos (show true = true ∧ true = true from ⟨rfl, rfl⟩)]
  exact ref01_cmp_loop k n1 d1 n2 d2 hn1 ⟨p1, hd1.2⟩ hn2 ⟨p2, hd2.2⟩ (by omega) (by omega)
end Go.Proofs.Ytngiipodkbfokaa.PAll
