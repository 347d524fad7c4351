/- Plain lemmas on the printed functions: numbers and lists alone, no program and no memory. -/
import Derived.Test.YtngiipodkbfokaaLibDiv
import Derived.Test.YtngiipodkbfokaaLibNum
import Derived.Test.YtngiipodkbfokaaLibNum2
import Derived.Test.YtngiipodkbfokaaPAllx4
import Derived.Test.YtngiipodkbfokaaPAllx6
import Derived.Test.YtngiipodkbfokaaPAllx7
namespace Go.Proofs.Ytngiipodkbfokaa.PAll
open Go.RowKit Go.Proofs.YtngiipodkbfokaaW.PrintWords Go.Proofs.YtngiipodkbfokaaW.PrintLast
set_option linter.unusedVariables false
/-! ### MulDiv -/
def negOf (a b c : Int) : Bool := (decide (a < 0) != decide (b < 0)) != decide (c < 0)
def mulDivN (n : Bool) (Q R : Int) : Int × Int :=
  if n = true then (if Q + (if R = 0 then 0 else 1) ≤ 9223372036854775808 then (-(Q + (if R = 0 then 0 else 1)), 0) else (0, 15))
  else if Q ≤ 9223372036854775807 then (Q, 0) else (0, 15)
def mulDivS (a b c : Int) : Int × Int := if c = 0 then (0, 21) else mulDivN (negOf a b c) ((a.natAbs * b.natAbs / c.natAbs : Nat) : Int) ((a.natAbs * b.natAbs % c.natAbs : Nat) : Int)
theorem num_signed_true {n : Int} (h : 0 ≤ n) (h1 : n < 18446744073709551616) : num_signed.f true n = some (if n ≤ 9223372036854775808 then (-n, true) else (wrap64 (-(wrap64 n)), false)) := by
  unfold num_signed.f
  rw [if_pos rfl]
  by_cases hn : n ≤ 9223372036854775808
  · rw [if_pos hn, decide_eq_true hn]
    refine congrArg some (Prod.ext ?_ rfl)
    show wrap64 (-(wrap64 n)) = -n
    unfold wrap64; omega
  · rw [if_neg hn, decide_eq_false hn]
theorem num_signed_false {n : Int} (h : 0 ≤ n) : num_signed.f false n = some (if n ≤ 9223372036854775807 then (n, true) else (wrap64 n, false)) := by
  unfold num_signed.f
  rw [if_neg (by decide)]
  by_cases hn : n ≤ 9223372036854775807
  · rw [if_pos hn, decide_eq_true hn, w64 (by omega)]
  · rw [if_neg hn, decide_eq_false hn]
theorem num_MulDiv_eq {a b c : Int} (ha : -9223372036854775808 ≤ a ∧ a ≤ 9223372036854775807) (hb : -9223372036854775808 ≤ b ∧ b ≤ 9223372036854775807) (hc : -9223372036854775808 ≤ c ∧ c ≤ 9223372036854775807) (k : Nat) (hk : 20 ≤ k) :
    num_MulDiv.f k a b c = some (mulDivS a b c) := by
  unfold num_MulDiv.f mulDivS
  by_cases h0 : c = 0
  · rw [if_pos h0, if_pos h0]
  · rw [if_neg h0, if_neg h0]
    rw [num_abs_eq ha, Option.bind_some, num_abs_eq hb, Option.bind_some]
    have hA := num_abs_nat ha
    have hB := num_abs_nat hb
    have hC := num_abs_nat hc
    obtain ⟨Pn, hP⟩ : ∃ P, P = a.natAbs * b.natAbs := ⟨_, rfl⟩
    obtain ⟨Cn, hCn⟩ : ∃ C, C = c.natAbs := ⟨_, rfl⟩
    have eP : (a.natAbs : Int) * (b.natAbs : Int) = (Pn : Int) := by rw [hP, Int.natCast_mul]
    obtain ⟨H, hH⟩ : ∃ H : Int, H = (Pn : Int) / 18446744073709551616 := ⟨_, rfl⟩
    obtain ⟨L, hL⟩ : ∃ L : Int, L = (Pn : Int) % 18446744073709551616 := ⟨_, rfl⟩
    have eM : bits_Mul64.f (a.natAbs : Int) (b.natAbs : Int) = some (H, L) := by
      unfold bits_Mul64.f
      rw [if_pos (by omega), eP, hH, hL]
    rw [eM, Option.bind_some, num_abs_eq hc, Option.bind_some, ← hP, ← hCn]
    dsimp only
    have hPb : Pn ≤ 85070591730234615865843651857942052864 := by
      have := Nat.mul_le_mul hA hB; omega
    have hC0 : 0 < Cn := by omega
    have hd := Nat.mod_add_div Pn Cn
    have hm := Nat.mod_lt Pn hC0
    by_cases hov : H ≥ (Cn : Int)
    · rw [if_pos hov]
      have hQ : 18446744073709551616 ≤ Pn / Cn := by
        rw [Nat.le_div_iff_mul_le hC0]; omega
      unfold mulDivN
      cases negOf a b c
      · rw [if_neg (by decide), if_neg (by omega)]
      · rw [if_pos rfl, if_neg (by split <;> omega)]
    · have hQ : Pn / Cn < 18446744073709551616 := by
        rw [Nat.div_lt_iff_lt_mul hC0]; omega
      have eD := bits_Div64_eq (hi := H) (lo := L) (y := (Cn : Int)) (by omega) (by omega) (by omega) (by omega) (by omega) k hk
      rw [show H * 18446744073709551616 + L = (Pn : Int) by omega] at eD
      rw [if_neg hov, Option.bind_some, eD, Option.bind_some]
      dsimp only
      rw [← Int.natCast_ediv, ← Int.natCast_emod]
      generalize Pn / Cn = Q at *
      generalize Pn % Cn = R at *
      have pos : ((num_signed.f true (Q : Int)).bind fun bt159 => (if bt159.2 = true then (some (bt159.1, (0 : Int))) else (some (0, 15)))) = some (if (Q : Int) ≤ 9223372036854775808 then (-(Q : Int), 0) else (0, 15)) := by
        rw [num_signed_true (by omega) (by omega), Option.bind_some]
        split <;> rfl
      have npos : ((num_signed.f false (Q : Int)).bind fun bt159 => (if bt159.2 = true then (some (bt159.1, (0 : Int))) else (some (0, 15)))) = some (if (Q : Int) ≤ 9223372036854775807 then ((Q : Int), 0) else (0, 15)) := by
        rw [num_signed_false (by omega), Option.bind_some]
        split <;> rfl
      have pos1 : (if (Q : Int) > 9223372036854775807 then (some (0, 15)) else ((num_signed.f true (IntKind.u64.wrap ((Q : Int) + 1))).bind fun bt161 => (if bt161.2 = true then (some (bt161.1, (0 : Int))) else (some (0, 15))))) = some (if (Q : Int) + 1 ≤ 9223372036854775808 then (-((Q : Int) + 1), 0) else (0, 15)) := by
        by_cases hq : (Q : Int) > 9223372036854775807
        · rw [if_pos hq, if_neg (by omega)]
        · rw [if_neg hq, show IntKind.u64.wrap ((Q : Int) + 1) = (Q : Int) + 1 by rw [u64w]; omega, num_signed_true (by omega) (by omega), Option.bind_some, if_pos (show (Q : Int) + 1 ≤ 9223372036854775808 by omega), if_pos (show (Q : Int) + 1 ≤ 9223372036854775808 by omega)]
          rfl
      have T : (if (R : Int) = 0 then ((num_signed.f true (Q : Int)).bind fun bt159 => (if bt159.2 = true then (some (bt159.1, (0 : Int))) else (some (0, 15)))) else (if (Q : Int) > 9223372036854775807 then (some (0, 15)) else ((num_signed.f true (IntKind.u64.wrap ((Q : Int) + 1))).bind fun bt161 => (if bt161.2 = true then (some (bt161.1, (0 : Int))) else (some (0, 15)))))) = some (mulDivN true (Q : Int) (R : Int)) := by
        unfold mulDivN
        rw [if_pos rfl]
        by_cases hr : (R : Int) = 0
        · rw [if_pos hr, if_pos hr, pos, show (Q : Int) + 0 = Q by omega]
        · rw [if_neg hr, if_neg hr, pos1]
      have F : ((num_signed.f false (Q : Int)).bind fun bt159 => (if bt159.2 = true then (some (bt159.1, (0 : Int))) else (some (0, 15)))) = some (mulDivN false (Q : Int) (R : Int)) := by
        unfold mulDivN
        rw [if_neg (by decide), npos]
      unfold negOf
      by_cases sa : a < 0 <;> by_cases sb : b < 0 <;> by_cases sc : c < 0 <;> simp only [sa, sb, sc, if_true, if_false, decide_true, decide_false, T, F] <;> rfl
end Go.Proofs.Ytngiipodkbfokaa.PAll
