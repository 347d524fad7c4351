/- Plain lemmas on the printed functions: numbers and lists alone, no program and no memory. -/
import Derived.Test.YtngiipodkbfokaaLibFrac
import Derived.Test.YtngiipodkbfokaaPAllx10
import Derived.Test.YtngiipodkbfokaaPAllx4
import Derived.Test.YtngiipodkbfokaaPAllx8
import Derived.Test.YtngiipodkbfokaaPAllx9
namespace Go.Proofs.Ytngiipodkbfokaa.PAll
open Go.RowKit Go.Proofs.YtngiipodkbfokaaW.PrintWords Go.Proofs.YtngiipodkbfokaaW.PrintLast
set_option linter.unusedVariables false
/-! ### comparison of fractions -/
def sgn (x y : Int) : Int := if x < y then -1 else if x > y then 1 else 0
theorem sgn_congr {x y x' y' : Int} (h1 : x < y ↔ x' < y') (h2 : x > y ↔ x' > y') : sgn x y = sgn x' y' := by
  unfold sgn
  by_cases a : x < y
  · rw [if_pos a, if_pos (h1.1 a)]
  · rw [if_neg a, if_neg (fun h => a (h1.2 h))]
    by_cases b : x > y
    · rw [if_pos b, if_pos (h2.1 b)]
    · rw [if_neg b, if_neg (fun h => b (h2.2 h))]
theorem sgn_range (x y : Int) : sgn x y = -1 ∧ x < y ∨ sgn x y = 1 ∧ y < x ∨ sgn x y = 0 ∧ x = y := by
  unfold sgn
  by_cases a : x < y
  · rw [if_pos a]; exact .inl ⟨rfl, a⟩
  · rw [if_neg a]
    by_cases b : x > y
    · rw [if_pos b]; exact .inr (.inl ⟨rfl, b⟩)
    · rw [if_neg b]; exact .inr (.inr ⟨rfl, by omega⟩)
def cmpS (n1 d1 n2 d2 : Int) : Int := if validS n1 d1 = true ∧ validS n2 d2 = true then sgn (n1 * d2) (n2 * d1) else 0
theorem compare_int (x y : Int) : cmp_Compare_int.f x y = some (sgn x y) := by
  unfold cmp_Compare_int.f cmp_isNaN_int.f sgn
  rw [bne_self_eq_false, bne_self_eq_false, Option.bind_some, Option.bind_some, if_neg (by decide), if_neg (by decide)]
  by_cases a : x < y
  · rw [if_pos a, if_pos a]
  · rw [if_neg a, if_neg a]
    by_cases b : x > y
    · rw [if_pos b, if_pos b]
    · rw [if_neg b, if_neg b]
theorem compare_u64 (x y : Int) : cmp_Compare_uint64.f x y = some (sgn x y) := by
  unfold cmp_Compare_uint64.f cmp_isNaN_uint64.f sgn
  rw [bne_self_eq_false, bne_self_eq_false, Option.bind_some, Option.bind_some, if_neg (by decide), if_neg (by decide)]
  by_cases a : x < y
  · rw [if_pos a, if_pos a]
  · rw [if_neg a, if_neg a]
    by_cases b : x > y
    · rw [if_pos b, if_pos b]
    · rw [if_neg b, if_neg b]
theorem or_two (x y : Int) (k : Nat) (hk : 3 ≤ k) : cmp_Or_int.f k [x, y] = some (if x = 0 then y else x) := by
  obtain ⟨k, rfl⟩ : ∃ j, k = j + 3 := ⟨k - 3, by omega⟩
  have r0 : rd [x, y] 0 = x := rfl
  have r1 : rd [x, y] 1 = y := rfl
  have w1 : wrap64 (0 + 1) = 1 := by unfold wrap64; omega
  have w2 : wrap64 (1 + 1) = 2 := by unfold wrap64; omega
  have l2 : (([x, y] : List Int).length : Int) = 2 := rfl
  unfold cmp_Or_int.f
  rw [l2]
  simp only [cmp_Or_int.l0]
  rw [l2, if_pos (by decide), if_pos (by decide), if_pos (by decide), r0, w1]
  by_cases hx : x = 0
  · rw [if_pos hx, if_pos hx, if_pos (by decide), if_pos (by decide), if_pos (by decide), r1, w2]
    by_cases hy : y = 0
    · rw [if_pos hy, if_neg (by decide), hy]
    · rw [if_neg hy]
  · rw [if_neg hx, if_neg hx]
theorem sgn_two (A B : Int) : (if sgn (A / 18446744073709551616) (B / 18446744073709551616) = 0 then sgn (A % 18446744073709551616) (B % 18446744073709551616) else sgn (A / 18446744073709551616) (B / 18446744073709551616)) = sgn A B := by
  rcases sgn_range (A / 18446744073709551616) (B / 18446744073709551616) with ⟨e, h⟩ | ⟨e, h⟩ | ⟨e, h⟩
  · rw [if_neg (by rw [e]; decide)]
    exact sgn_congr (by omega) (by omega)
  · rw [if_neg (by rw [e]; decide)]
    exact sgn_congr (by omega) (by omega)
  · rw [if_pos e]
    exact sgn_congr (by omega) (by omega)
theorem mul64_eq {x y : Nat} (hx : x ≤ 9223372036854775808) (hy : y ≤ 9223372036854775808) : ∃ H L : Int, bits_Mul64.f (x : Int) (y : Int) = some (H, L) ∧ H = ((x * y : Nat) : Int) / 18446744073709551616 ∧ L = ((x * y : Nat) : Int) % 18446744073709551616 := by
  refine ⟨_, _, ?_, rfl, rfl⟩
  unfold bits_Mul64.f
  rw [if_pos (by omega), Int.natCast_mul]
theorem abs_mul {n d : Int} (h : 0 < d) : ((n.natAbs * d.natAbs : Nat) : Int) = (if n < 0 then -(n * d) else n * d) := by
  rw [Int.natCast_mul, show (d.natAbs : Int) = d by omega]
  by_cases hn : n < 0
  · rw [if_pos hn, show (n.natAbs : Int) = -n by omega, Int.neg_mul]
  · rw [if_neg hn, show (n.natAbs : Int) = n by omega]
theorem num_Cmp_eq {n1 d1 n2 d2 : Int} (hn1 : -9223372036854775808 ≤ n1 ∧ n1 ≤ 9223372036854775807) (hd1 : -9223372036854775808 ≤ d1 ∧ d1 ≤ 9223372036854775807)
    (hn2 : -9223372036854775808 ≤ n2 ∧ n2 ≤ 9223372036854775807) (hd2 : -9223372036854775808 ≤ d2 ∧ d2 ≤ 9223372036854775807) (k : Nat) (hk : 9223372036854775820 ≤ k) :
    num_Cmp.f k n1 d1 n2 d2 = some (cmpS n1 d1 n2 d2) := by
  obtain ⟨k, rfl⟩ : ∃ j, k = j + 2 := ⟨k - 2, by omega⟩
  have j0t : num_Cmp.j0 (k + 2) true n1 d1 n2 d2 = some 0 := by simp only [num_Cmp.j0]; rfl
  have j0f : num_Cmp.j0 (k + 2) false n1 d1 n2 d2 = if sgn n1 0 = sgn n2 0 then num_Cmp.j1 (k + 1) (sgn n1 0) (sgn n2 0) (sgn n1 0 == 0) n1 d1 n2 d2 else num_Cmp.j1 (k + 1) (sgn n1 0) (sgn n2 0) true n1 d1 n2 d2 := by
    simp only [num_Cmp.j0]
    rw [if_neg (by decide), compare_int, Option.bind_some, compare_int, Option.bind_some]
  unfold num_Cmp.f cmpS
  rw [num_valid_eq hn1 hd1 _ (by omega), Option.bind_some]
  cases v1 : validS n1 d1 with
  | false => rw [if_neg (by decide), j0t, if_neg (fun h => by cases h.1)]
  | true =>
  rw [if_pos rfl, num_valid_eq hn2 hd2 _ (by omega), Option.bind_some]
  cases v2 : validS n2 d2 with
  | false => rw [show (!false) = true from rfl, j0t, if_neg (fun h => by cases h.2)]
  | true =>
  have p1 : 0 < d1 := (of_decide_eq_true v1).1
  have p2 : 0 < d2 := (of_decide_eq_true v2).1
  rw [show (!true) = false from rfl, j0f, if_pos (show true = true ∧ true = true from ⟨rfl, rfl⟩)]
  have pos1 : 0 < n1 → 0 < n1 * d2 := fun h => Int.mul_pos h p2
  have neg1 : n1 < 0 → n1 * d2 < 0 := fun h => Int.mul_neg_of_neg_of_pos h p2
  have zer1 : n1 = 0 → n1 * d2 = 0 := fun h => by rw [h, Int.zero_mul]
  have pos2 : 0 < n2 → 0 < n2 * d1 := fun h => Int.mul_pos h p1
  have neg2 : n2 < 0 → n2 * d1 < 0 := fun h => Int.mul_neg_of_neg_of_pos h p1
  have zer2 : n2 = 0 → n2 * d1 = 0 := fun h => by rw [h, Int.zero_mul]
  have j1t : num_Cmp.j1 (k + 1) (sgn n1 0) (sgn n2 0) true n1 d1 n2 d2 = some (sgn (sgn n1 0) (sgn n2 0)) := by
    simp only [num_Cmp.j1]; rw [if_pos trivial, compare_int, Option.bind_some]
  rcases sgn_range n1 0 with ⟨e1, h1⟩ | ⟨e1, h1⟩ | ⟨e1, h1⟩ <;> rcases sgn_range n2 0 with ⟨e2, h2⟩ | ⟨e2, h2⟩ | ⟨e2, h2⟩
  case inr.inr.inr.inr =>
    rw [if_pos (show sgn n1 0 = sgn n2 0 by rw [e1, e2]), show (sgn n1 0 == 0) = true by rw [e1]; rfl, j1t, e1, e2]
    congr 1
    have := zer1 h1; have := zer2 h2
    exact sgn_congr (by omega) (by omega)
  case inl.inr.inl | inl.inr.inr | inr.inl.inl | inr.inl.inr.inr | inr.inr.inl | inr.inr.inr.inl =>
    rw [if_neg (show ¬ sgn n1 0 = sgn n2 0 by rw [e1, e2]; decide), j1t, e1, e2]
    congr 1
    refine sgn_congr ?_ ?_ <;>
    · rcases Int.lt_trichotomy n1 0 with a | a | a <;> rcases Int.lt_trichotomy n2 0 with b | b | b <;>
        first
        | (exfalso; omega)
        | (first | have := pos1 a | have := neg1 a | have := zer1 a) <;> (first | have := pos2 b | have := neg2 b | have := zer2 b) <;> omega
  all_goals
    rw [if_pos (show sgn n1 0 = sgn n2 0 by rw [e1, e2]), show (sgn n1 0 == 0) = false by rw [e1]; rfl]
    simp only [num_Cmp.j1]
    rw [if_neg (by decide), num_abs_eq hn1, Option.bind_some, num_abs_eq hd2, Option.bind_some]
    obtain ⟨H1, L1, m1, eH1, eL1⟩ := mul64_eq (num_abs_nat hn1) (num_abs_nat hd2)
    obtain ⟨H2, L2, m2, eH2, eL2⟩ := mul64_eq (num_abs_nat hn2) (num_abs_nat hd1)
    rw [m1, Option.bind_some, num_abs_eq hn2, Option.bind_some, num_abs_eq hd1, Option.bind_some, m2, Option.bind_some]
    dsimp only
    rw [compare_u64, Option.bind_some, compare_u64, Option.bind_some, or_two _ _ k (by omega), Option.bind_some, eH1, eH2, eL1, eL2, sgn_two]
    have q1 := abs_mul (n := n1) p2
    have q2 := abs_mul (n := n2) p1
    rw [q1, q2]
  · rw [if_pos h1, if_pos h1, if_pos h2]
    refine congrArg some ?_
    rcases sgn_range (-(n1 * d2)) (-(n2 * d1)) with ⟨e, h⟩ | ⟨e, h⟩ | ⟨e, h⟩ <;> rcases sgn_range (n1 * d2) (n2 * d1) with ⟨e', h'⟩ | ⟨e', h'⟩ | ⟨e', h'⟩ <;>
      first | (exfalso; omega) | (rw [e, e']; exact w64 (by omega))
  · have f1 : ¬ n1 < 0 := by omega
    have f2 : ¬ n2 < 0 := by omega
    rw [if_neg f1, if_neg f1, if_neg f2]
end Go.Proofs.Ytngiipodkbfokaa.PAll
