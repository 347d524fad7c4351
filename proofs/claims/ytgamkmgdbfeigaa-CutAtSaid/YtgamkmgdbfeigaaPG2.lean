/- The order of directions, in plain numbers. -/
import Derived.Test.YtgamkmgdbfeigaaPG1
namespace Go.Proofs.YtgamkmgdbfeigaaM
open Go Go.RowKit
def LT (ux uy vx vy : Int) : Prop := hlf ux uy < hlf vx vy ∨ (hlf ux uy = hlf vx vy ∧ 0 < ux * vy - uy * vx)
def qd (x y : Int) : Int := if x > 0 ∧ y ≥ 0 then 0 else if x ≤ 0 ∧ y > 0 then 1 else if x < 0 then 2 else 3
theorem hlf_01 (x y : Int) : (hlf x y = 0 ∧ (0 < y ∨ y = 0 ∧ 0 < x)) ∨ (hlf x y = 1 ∧ ¬ (0 < y ∨ y = 0 ∧ 0 < x)) := by
  unfold hlf
  by_cases h : 0 < y ∨ y = 0 ∧ 0 < x
  · rw [if_pos h]; exact .inl ⟨rfl, h⟩
  · rw [if_neg h]; exact .inr ⟨rfl, h⟩
theorem qd_4 (x y : Int) : (qd x y = 0 ∧ x > 0 ∧ y ≥ 0) ∨ (qd x y = 1 ∧ x ≤ 0 ∧ y > 0) ∨ (qd x y = 2 ∧ x < 0 ∧ y ≤ 0) ∨ (qd x y = 3 ∧ x ≥ 0 ∧ y ≤ 0 ∧ ¬ (x > 0 ∧ y = 0)) := by
  unfold qd
  split
  · omega
  · split
    · omega
    · split <;> omega
theorem LT_qd {ux uy vx vy : Int} (hu : ux ≠ 0 ∨ uy ≠ 0) (hv : vx ≠ 0 ∨ vy ≠ 0) : LT ux uy vx vy ↔ (qd ux uy < qd vx vy ∨ (qd ux uy = qd vx vy ∧ 0 < ux * vy - uy * vx)) := by
  unfold LT
  have s1 := sgnM ux vy
  have s2 := sgnM uy vx
  generalize ux * vy = p at *
  generalize uy * vx = q at *
  rcases hlf_01 ux uy with ⟨h1, h1'⟩ | ⟨h1, h1'⟩ <;> rcases hlf_01 vx vy with ⟨h2, h2'⟩ | ⟨h2, h2'⟩ <;> rw [h1, h2] <;>
  rcases qd_4 ux uy with ⟨h3, h3'⟩ | ⟨h3, h3'⟩ | ⟨h3, h3'⟩ | ⟨h3, h3'⟩ <;> rcases qd_4 vx vy with ⟨h4, h4'⟩ | ⟨h4, h4'⟩ | ⟨h4, h4'⟩ | ⟨h4, h4'⟩ <;> rw [h3, h4] <;> omega
theorem LT_asymm {ux uy vx vy : Int} (h : LT ux uy vx vy) : ¬ LT vx vy ux uy := by
  unfold LT at *
  have e1 := Int.mul_comm vx uy
  have e2 := Int.mul_comm vy ux
  omega
theorem LT_irr (ux uy : Int) : ¬ LT ux uy ux uy := fun h => LT_asymm h h
theorem key_lt {ux uy vx vy wx wy c1 c2 c3 : Int} (e1 : ux * vy - uy * vx = c1) (e2 : vx * wy - vy * wx = c2) (e3 : ux * wy - uy * wx = c3) : c3 * vy = c1 * wy + c2 * uy ∧ c3 * vx = c1 * wx + c2 * ux := by
  subst e1 e2 e3
  constructor <;> grind
theorem LT_pos {ux uy vx vy wx wy c1 c2 c3 : Int} (e1 : ux * vy - uy * vx = c1) (e2 : vx * wy - vy * wx = c2) (e3 : ux * wy - uy * wx = c3) (h1 : 0 < c1) (h2 : 0 < c2) (hu : 0 < uy ∨ uy = 0 ∧ 0 < ux) (hv : 0 < vy ∨ vy = 0 ∧ 0 < vx) (hw : 0 < wy ∨ wy = 0 ∧ 0 < wx) : 0 < c3 := by
  obtain ⟨k1, k2⟩ := key_lt e1 e2 e3
  rcases hv with hv | ⟨hv, hv'⟩
  · by_cases hz : uy = 0 ∧ wy = 0
    · exfalso
      obtain ⟨h3, h4⟩ := hz
      have := Int.mul_pos hv (show 0 < wx by omega)
      rw [h4, Int.mul_zero] at e2
      omega
    · have p1 : 0 ≤ c1 * wy := Int.mul_nonneg (by omega) (by omega)
      have p2 : 0 ≤ c2 * uy := Int.mul_nonneg (by omega) (by omega)
      have p3 : 0 < c1 * wy + c2 * uy := by
        by_cases hw0 : 0 < wy
        · have := Int.mul_pos h1 hw0; omega
        · have := Int.mul_pos h2 (show 0 < uy by omega); omega
      rw [← k1] at p3
      exact Int.pos_of_mul_pos_left p3 hv
  · exfalso
    have := Int.mul_nonneg (show 0 ≤ uy by omega) (show 0 ≤ vx by omega)
    rw [hv, Int.mul_zero] at e1
    omega
theorem LT_trans {ux uy vx vy wx wy : Int} (hu : ux ≠ 0 ∨ uy ≠ 0) (hv : vx ≠ 0 ∨ vy ≠ 0) (hw : wx ≠ 0 ∨ wy ≠ 0) (h1 : LT ux uy vx vy) (h2 : LT vx vy wx wy) : LT ux uy wx wy := by
  unfold LT at *
  rcases h1 with h1 | ⟨h1, h1'⟩
  · left; omega
  · rcases h2 with h2 | ⟨h2, h2'⟩
    · left; omega
    · right
      refine ⟨h1.trans h2, ?_⟩
      rcases hlf_01 ux uy with ⟨a1, a1'⟩ | ⟨a1, a1'⟩
      · rcases hlf_01 vx vy with ⟨a2, a2'⟩ | ⟨a2, a2'⟩
        · rcases hlf_01 wx wy with ⟨a3, a3'⟩ | ⟨a3, a3'⟩
          · exact LT_pos rfl rfl rfl h1' h2' a1' a2' a3'
          · omega
        · omega
      · rcases hlf_01 vx vy with ⟨a2, a2'⟩ | ⟨a2, a2'⟩
        · omega
        · rcases hlf_01 wx wy with ⟨a3, a3'⟩ | ⟨a3, a3'⟩
          · omega
          · exact LT_pos (ux := -ux) (uy := -uy) (vx := -vx) (vy := -vy) (wx := -wx) (wy := -wy) (by grind) (by grind) (by grind) h1' h2' (by omega) (by omega) (by omega)
/-- Directions that do not come one before the other. -/
def EQd (ux uy vx vy : Int) : Prop := ¬ LT ux uy vx vy ∧ ¬ LT vx vy ux uy
theorem EQd_iff (ux uy vx vy : Int) : EQd ux uy vx vy ↔ hlf ux uy = hlf vx vy ∧ ux * vy - uy * vx = 0 := by
  unfold EQd LT
  have e1 := Int.mul_comm vx uy
  have e2 := Int.mul_comm vy ux
  omega
theorem EQd_trans {ux uy vx vy wx wy : Int} (hv : vx ≠ 0 ∨ vy ≠ 0) (h1 : EQd ux uy vx vy) (h2 : EQd vx vy wx wy) : EQd ux uy wx wy := by
  rw [EQd_iff] at *
  refine ⟨h1.1.trans h2.1, ?_⟩
  obtain ⟨k1, k2⟩ := key_lt h1.2 h2.2 rfl
  rw [Int.zero_mul, Int.zero_mul, Int.add_zero] at k1 k2
  rcases hv with hv | hv
  · exact (Int.mul_eq_zero.1 k2).resolve_right hv
  · exact (Int.mul_eq_zero.1 k1).resolve_right hv
/-! ### Less -/
theorem lessB_iff (a b c d e f : Int) : lessB a b c d e f = true ↔ (Nr a b ∧ Nr c d ∧ Nr e f) ∧ (c ≠ a ∨ d ≠ b) ∧ (e ≠ a ∨ f ≠ b) ∧ LT (c - a) (d - b) (e - a) (f - b) := by
  unfold lessB
  by_cases h : nr3 a b c d e f = true
  · obtain ⟨h1, h2, h3⟩ := (nr3_iff ..).1 h
    obtain ⟨_, _, w1, w2⟩ := h2.d h1
    obtain ⟨_, _, w3, w4⟩ := h3.d h1
    rw [show (nr a b && (nr c d && nr e f)) = true from h, w1, w2, w3, w4, tw_eq h1 h2 h3]
    have hcr : cr a b c d e f = (c - a) * (f - b) - (d - b) * (e - a) := rfl
    unfold LT
    rw [← hcr]
    generalize cr a b c d e f = C at *
    clear hcr
    by_cases h4 : c = a ∧ d = b
    · rw [if_pos (by simp [h4])]
      constructor
      · intro h; cases h
      · rintro ⟨_, h, _⟩; omega
    · by_cases h5 : e = a ∧ f = b
      · rw [if_pos (by simp [h5])]
        constructor
        · intro h; cases h
        · rintro ⟨_, _, h, _⟩; omega
      · have h6 : ¬ ((!true || c == a && d == b || e == a && f == b) = true) := by
          simp only [Bool.not_true, Bool.false_or, Bool.or_eq_true, Bool.and_eq_true, beq_iff_eq]
          omega
        rw [if_neg h6]
        have h7 : c ≠ a ∨ d ≠ b := by omega
        have h8 : e ≠ a ∨ f ≠ b := by omega
        split
        · rename_i hh
          rw [decide_eq_true_eq]
          exact ⟨fun h => ⟨⟨h1, h2, h3⟩, h7, h8, .inr ⟨hh, h⟩⟩, fun ⟨_, _, _, h⟩ => by omega⟩
        · rename_i hh
          rw [decide_eq_true_eq]
          exact ⟨fun h => ⟨⟨h1, h2, h3⟩, h7, h8, .inl h⟩, fun ⟨_, _, _, h⟩ => by omega⟩
  · rw [show (nr a b && (nr c d && nr e f)) = false from Bool.eq_false_iff.2 h, if_pos (by rfl)]
    constructor
    · intro h; cases h
    · rintro ⟨h1, _⟩; exact absurd ((nr3_iff ..).2 h1) h
theorem quar_eq {a b c d : Int} (h1 : Nr a b) (h2 : Nr c d) : quar a b c d = qd (c - a) (d - b) := by
  obtain ⟨_, _, w1, w2⟩ := h2.d h1
  unfold quar qd
  rw [w1, w2]
  by_cases x1 : c - a > 0 ∧ d - b ≥ 0
  · rw [if_pos x1, decide_eq_true x1.1, decide_eq_true x1.2]; rfl
  · rw [if_neg x1, show (decide (c - a > 0) && decide (d - b ≥ 0)) = false by rw [Bool.eq_false_iff]; simpa using x1, cond_false]
    by_cases x2 : c - a ≤ 0 ∧ d - b > 0
    · rw [if_pos x2, decide_eq_true x2.1, decide_eq_true x2.2]; rfl
    · rw [if_neg x2, show (decide (c - a ≤ 0) && decide (d - b > 0)) = false by rw [Bool.eq_false_iff]; simpa using x2, cond_false]
      by_cases x3 : c - a < 0
      · rw [if_pos x3, decide_eq_true x3]; rfl
      · rw [if_neg x3, decide_eq_false x3]; rfl
theorem less_rless (a b c d e f : Int) : lessB a b c d e f = rlessB a b c d e f := by
  rw [Bool.eq_iff_iff, lessB_iff]
  unfold rlessB
  by_cases h : nr3 a b c d e f = true
  · obtain ⟨h1, h2, h3⟩ := (nr3_iff ..).1 h
    rw [show (nr a b && (nr c d && nr e f)) = true from h, quar_eq h1 h2, quar_eq h1 h3, (xr_eq h1 h2 h1 h3).1]
    by_cases h4 : c = a ∧ d = b
    · rw [show (!true || c == a && d == b || e == a && f == b) = true by simp [h4], cond_true]
      constructor
      · rintro ⟨_, h, _⟩; omega
      · intro h; cases h
    · by_cases h5 : e = a ∧ f = b
      · rw [show (!true || c == a && d == b || e == a && f == b) = true by simp [h5], cond_true]
        constructor
        · rintro ⟨_, _, h, _⟩; omega
        · intro h; cases h
      · have h6 : (!true || c == a && d == b || e == a && f == b) = false := by
          rw [Bool.eq_false_iff]
          simp only [Bool.not_true, Bool.false_or, ne_eq, Bool.or_eq_true, Bool.and_eq_true, beq_iff_eq]
          omega
        rw [h6, cond_false, Bool.or_eq_true, Bool.and_eq_true, decide_eq_true_eq, decide_eq_true_eq, beq_iff_eq, LT_qd (by omega) (by omega)]
        exact ⟨fun ⟨_, _, _, h⟩ => h, fun h => ⟨⟨h1, h2, h3⟩, by omega, by omega, h⟩⟩
  · rw [show (nr a b && (nr c d && nr e f)) = false from Bool.eq_false_iff.2 h]
    constructor
    · rintro ⟨h1, _⟩; exact absurd ((nr3_iff ..).2 h1) h
    · intro h; cases h
end Go.Proofs.YtgamkmgdbfeigaaM
