/- Common points of segments, in plain numbers. -/
import Derived.Test.YtgamkmgdbfeigaaPG2
namespace Go.Proofs.YtgamkmgdbfeigaaM
open Go Go.RowKit
/-- Points in the order by X, then by Y, as numbers. -/
def Kp (a b : Int) : Int := a * 8388608 + b
theorem fst_K {a b c d : Int} (h : Nr a b) (h' : Nr c d) : fst a b c d = decide (Kp a b < Kp c d) := by
  unfold fst Kp Nr at *
  rw [Bool.eq_iff_iff, Bool.or_eq_true, Bool.and_eq_true, decide_eq_true_eq, decide_eq_true_eq, decide_eq_true_eq, beq_iff_eq]
  omega
theorem Kp_inj {a b c d : Int} (h : Nr a b) (h' : Nr c d) : Kp a b = Kp c d ↔ a = c ∧ b = d := by
  unfold Kp Nr at *; omega
theorem ord_fst (a b c d : Int) : decide (ord a b c d < 0) = fst a b c d := by
  unfold ord cmpI fst
  rw [Bool.eq_iff_iff, Bool.or_eq_true, Bool.and_eq_true, decide_eq_true_eq, decide_eq_true_eq, decide_eq_true_eq, beq_iff_eq]
  split <;> split <;> omega
theorem ord_fst' (a b c d : Int) : decide (ord a b c d > 0) = fst c d a b := by
  unfold ord cmpI fst
  rw [Bool.eq_iff_iff, Bool.or_eq_true, Bool.and_eq_true, decide_eq_true_eq, decide_eq_true_eq, decide_eq_true_eq, beq_iff_eq]
  split <;> split <;> omega
theorem ord_if {α : Type} (a b c d : Int) (x y : α) : (if 0 < ord a b c d then x else y) = bif fst c d a b then x else y := by
  rw [← ord_fst']
  by_cases h : 0 < ord a b c d
  · rw [if_pos h, decide_eq_true (show ord a b c d > 0 from h)]; rfl
  · rw [if_neg h, decide_eq_false (show ¬ ord a b c d > 0 from h)]; rfl
theorem ord_sh3 (a b c d : Int) : W (1 - ord a b c d) = sh3 a b c d := by
  unfold sh3
  rw [← ord_fst]
  by_cases h : a = c ∧ b = d
  · obtain ⟨rfl, rfl⟩ := h
    have : ord a b a b = 0 := by unfold ord cmpI; split <;> omega
    rw [this]; simp; rfl
  · rw [show (a == c && b == d) = false by rw [Bool.eq_false_iff]; simpa using h, cond_false]
    by_cases h2 : ord a b c d < 0
    · rw [decide_eq_true h2, cond_true]
      have : ord a b c d = -1 := by unfold ord cmpI at *; split at h2 <;> omega
      rw [this]; rfl
    · rw [decide_eq_false h2, cond_false]
      have : ord a b c d = 1 := by unfold ord cmpI at *; split at h2 <;> omega
      rw [this]; rfl
theorem line_sh (a b c d e f g h : Int) : lineI (if 0 < ord a b c d then c else a) (if 0 < ord a b c d then d else b) (if 0 < ord a b c d then a else c) (if 0 < ord a b c d then b else d)
    (if 0 < ord e f g h then g else e) (if 0 < ord e f g h then h else f) (if 0 < ord e f g h then e else g) (if 0 < ord e f g h then f else h) = sh a b c d e f g h := by
  simp only [ord_if]
  unfold lineI sh sh1 sh2
  rw [ord_sh3]
  simp only [ord_fst, ord_fst']
/-- The common points of two parts of a line. -/
def shK (k1 k2 k3 k4 : Int) : Int :=
  if max (min k1 k2) (min k3 k4) = min (max k1 k2) (max k3 k4) then 1 else if max (min k1 k2) (min k3 k4) < min (max k1 k2) (max k3 k4) then 2 else 0
theorem K_bif {a b c d : Int} (h1 : Nr a b) (h2 : Nr c d) (t : Bool) : Kp (bif t then c else a) (bif t then d else b) = (bif t then Kp c d else Kp a b) ∧ Nr (bif t then c else a) (bif t then d else b) := by
  cases t
  · exact ⟨rfl, h1⟩
  · exact ⟨rfl, h2⟩
theorem sh3_K {a b c d : Int} (h : Nr a b) (h' : Nr c d) : sh3 a b c d = if Kp a b = Kp c d then 1 else if Kp a b < Kp c d then 2 else 0 := by
  unfold sh3
  rw [fst_K h h']
  by_cases h2 : Kp a b = Kp c d
  · rw [if_pos h2]
    obtain ⟨rfl, rfl⟩ := (Kp_inj h h').1 h2
    simp
  · rw [if_neg h2, show (a == c && b == d) = false by rw [Bool.eq_false_iff]; intro h3; simp at h3; exact h2 ((Kp_inj h h').2 h3), cond_false]
    by_cases h4 : Kp a b < Kp c d
    · rw [if_pos h4, decide_eq_true h4]; rfl
    · rw [if_neg h4, decide_eq_false h4]; rfl
theorem bifK (t : Prop) [Decidable t] (x y : Int) : (bif decide t then x else y) = if t then x else y := by
  by_cases h : t
  · rw [decide_eq_true h, if_pos h]; rfl
  · rw [decide_eq_false h, if_neg h]; rfl
theorem sh_K {a b c d e f g h : Int} (h1 : Nr a b) (h2 : Nr c d) (h3 : Nr e f) (h4 : Nr g h) : sh a b c d e f g h = shK (Kp a b) (Kp c d) (Kp e f) (Kp g h) := by
  unfold sh
  rw [fst_K h2 h1]
  obtain ⟨e1, n1⟩ := K_bif h1 h2 (decide (Kp c d < Kp a b))
  obtain ⟨e2, n2⟩ := K_bif h2 h1 (decide (Kp c d < Kp a b))
  generalize (bif decide (Kp c d < Kp a b) then c else a) = p1 at *
  generalize (bif decide (Kp c d < Kp a b) then d else b) = p2 at *
  generalize (bif decide (Kp c d < Kp a b) then a else c) = q1 at *
  generalize (bif decide (Kp c d < Kp a b) then b else d) = q2 at *
  rw [bifK] at e1 e2
  unfold sh1
  rw [fst_K h4 h3]
  obtain ⟨e3, n3⟩ := K_bif h3 h4 (decide (Kp g h < Kp e f))
  obtain ⟨e4, n4⟩ := K_bif h4 h3 (decide (Kp g h < Kp e f))
  generalize (bif decide (Kp g h < Kp e f) then g else e) = r1 at *
  generalize (bif decide (Kp g h < Kp e f) then h else f) = r2 at *
  generalize (bif decide (Kp g h < Kp e f) then e else g) = s1 at *
  generalize (bif decide (Kp g h < Kp e f) then f else h) = s2 at *
  rw [bifK] at e3 e4
  unfold sh2
  rw [fst_K n1 n3, fst_K n4 n2]
  obtain ⟨e5, n5⟩ := K_bif n1 n3 (decide (Kp p1 p2 < Kp r1 r2))
  obtain ⟨e6, n6⟩ := K_bif n2 n4 (decide (Kp s1 s2 < Kp q1 q2))
  rw [sh3_K n5 n6, e5, e6, bifK, bifK, e1, e2, e3, e4]
  unfold shK
  generalize Kp a b = k1
  generalize Kp c d = k2
  generalize Kp e f = k3
  generalize Kp g h = k4
  clear e1 e2 e3 e4 e5 e6 n1 n2 n3 n4 n5 n6 h1 h2 h3 h4
  split <;> split <;> omega
/-! ### Points of a segment -/
theorem dot_pos {ux uy vx vy : Int} (h : ux * vy = uy * vx) (h1 : 0 < ux) (h2 : 0 < vx) : 0 < ux * vx + uy * vy := by
  have p := Int.mul_pos h1 h2
  have q : 0 ≤ uy * vy := by
    rcases Int.lt_trichotomy vy 0 with h3 | h3 | h3
    · have r := Int.mul_neg_of_pos_of_neg h1 h3
      have : uy < 0 := by
        rcases Int.lt_or_le uy 0 with h4 | h4
        · exact h4
        · have := Int.mul_nonneg h4 (Int.le_of_lt h2); omega
      exact Int.le_of_lt (Int.mul_pos_of_neg_of_neg this h3)
    · rw [h3, Int.mul_zero]; exact Int.le_refl 0
    · have r := Int.mul_pos h1 h3
      have : 0 < uy := by
        rcases Int.lt_or_le 0 uy with h4 | h4
        · exact h4
        · have := Int.mul_nonpos_of_nonpos_of_nonneg h4 (Int.le_of_lt h2); omega
      exact Int.le_of_lt (Int.mul_pos this h3)
  omega
theorem lexdot {ux uy vx vy : Int} (h : ux * vy - uy * vx = 0) : ux * vx + uy * vy ≤ 0 ↔ ¬ ((0 < ux ∨ ux = 0 ∧ 0 < uy) ∧ (0 < vx ∨ vx = 0 ∧ 0 < vy)) ∧ ¬ ((ux < 0 ∨ ux = 0 ∧ uy < 0) ∧ (vx < 0 ∨ vx = 0 ∧ vy < 0)) := by
  have hh : ux * vy = uy * vx := by omega
  have n1 := Int.neg_mul ux vy
  rcases Int.lt_trichotomy ux 0 with h1 | h1 | h1
  · rcases Int.lt_trichotomy vx 0 with h2 | h2 | h2
    · have := dot_pos (ux := -ux) (uy := -uy) (vx := -vx) (vy := -vy) (by grind) (by omega) (by omega)
      rw [show -ux * -vx + -uy * -vy = ux * vx + uy * vy by grind] at this
      omega
    · subst h2
      rw [Int.mul_zero] at hh
      have : vy = 0 := (Int.mul_eq_zero.1 hh).resolve_left (by omega)
      subst this
      rw [Int.mul_zero, Int.mul_zero]; omega
    · have := dot_pos (ux := -ux) (uy := -uy) (vx := vx) (vy := vy) (by grind) (by omega) (by omega)
      rw [show -ux * vx + -uy * vy = -(ux * vx + uy * vy) by grind] at this
      omega
  · subst h1
    rw [Int.zero_mul] at hh
    rcases Int.mul_eq_zero.1 hh.symm with h3 | h3
    · subst h3
      rw [Int.zero_mul, Int.zero_mul]; omega
    · subst h3
      have := sgnM uy vy
      rw [Int.zero_mul]; omega
  · rcases Int.lt_trichotomy vx 0 with h2 | h2 | h2
    · have := dot_pos (ux := ux) (uy := uy) (vx := -vx) (vy := -vy) (by grind) (by omega) (by omega)
      rw [show ux * -vx + uy * -vy = -(ux * vx + uy * vy) by grind] at this
      omega
    · subst h2
      rw [Int.mul_zero] at hh
      have : vy = 0 := (Int.mul_eq_zero.1 hh).resolve_left (by omega)
      subst this
      rw [Int.mul_zero, Int.mul_zero]; omega
    · have := dot_pos hh h1 h2
      omega
/-- Between two numbers, in either order. -/
def btw (k1 k2 k : Int) : Prop := min k1 k2 ≤ k ∧ k ≤ max k1 k2
instance (k1 k2 k : Int) : Decidable (btw k1 k2 k) := by unfold btw; infer_instance
theorem on_K {a b c d e f : Int} (h1 : Nr a b) (h2 : Nr c d) (h3 : Nr e f) : (on a b c d e f = true) ↔ cr a b c d e f = 0 ∧ btw (Kp a b) (Kp c d) (Kp e f) := by
  rw [on_eq h1 h2 h3, Bool.and_eq_true, beq_iff_eq, decide_eq_true_eq]
  refine and_congr_right fun hc => ?_
  have e1 : (a - e) * (d - f) - (b - f) * (c - e) = 0 := by rw [← hc]; unfold cr; grind
  unfold dt
  rw [lexdot e1]
  unfold btw Kp Nr at *
  omega
def opp (x y : Int) : Prop := ¬ (0 < x ∧ 0 < y) ∧ ¬ (x < 0 ∧ y < 0)
instance (x y : Int) : Decidable (opp x y) := by unfold opp; infer_instance
/-- How many points two segments have in common. -/
def mt (A1 A2 C1 C2 k1 k2 k3 k4 : Int) : Int :=
  if k1 = k2 then (if C1 = 0 ∧ btw k3 k4 k1 then 1 else 0) else if k3 = k4 then (if A1 = 0 ∧ btw k1 k2 k3 then 1 else 0) else
  if A1 ≠ 0 ∨ A2 ≠ 0 then (if opp A1 A2 ∧ opp C1 C2 then 1 else 0) else shK k1 k2 k3 k4
theorem sg_opp (x y : Int) : W (sg x * sg y) ≤ 0 ↔ opp x y := by
  unfold sg opp
  split <;> split <;> (try split) <;> (try split) <;> (constructor <;> intro h <;> first | omega | (exfalso; revert h; decide) | decide)
theorem sg_ne (x : Int) : sg x ≠ 0 ↔ x ≠ 0 := by
  unfold sg; split <;> (try split) <;> omega
theorem nr4 {a b c d e f g h : Int} (h1 : Nr a b) (h2 : Nr c d) (h3 : Nr e f) (h4 : Nr g h) : (nr a b && (nr c d && (nr e f && nr g h))) = true := by
  rw [nr_true h1, nr_true h2, nr_true h3, nr_true h4]; rfl
theorem nr4_iff {a b c d e f g h : Int} : (nr a b && (nr c d && (nr e f && nr g h))) = true ↔ Nr a b ∧ Nr c d ∧ Nr e f ∧ Nr g h := by
  simp only [Bool.and_eq_true, nr_iff]
theorem bif_if (t : Bool) (p : Prop) [Decidable p] (h : t = true ↔ p) (x y : Int) : (bif t then x else y) = if p then x else y := by
  by_cases hp : p
  · rw [if_pos hp, h.2 hp]; rfl
  · rw [if_neg hp, Bool.eq_false_iff.2 fun ht => hp (h.1 ht)]; rfl
theorem meetI_near {a b c d e f g h : Int} (h1 : Nr a b) (h2 : Nr c d) (h3 : Nr e f) (h4 : Nr g h) :
    meetI a b c d e f g h = mt (cr a b c d e f) (cr a b c d g h) (cr e f g h a b) (cr e f g h c d) (Kp a b) (Kp c d) (Kp e f) (Kp g h) := by
  unfold meetI mt
  rw [nr4 h1 h2 h3 h4, line_sh, sh_K h1 h2 h3 h4, twn_eq h1 h2 h3, twn_eq h1 h2 h4, twn_eq h3 h4 h1, twn_eq h3 h4 h2]
  rw [Bool.not_true, cond_false]
  rw [bif_if (a == c && b == d) (Kp a b = Kp c d) (by rw [Kp_inj h1 h2]; simp), bif_if (e == g && f == h) (Kp e f = Kp g h) (by rw [Kp_inj h3 h4]; simp)]
  rw [bif_if (on e f g h a b) _ (on_K h3 h4 h1), bif_if (on a b c d e f) _ (on_K h1 h2 h3)]
  rw [bif_if (sg (cr a b c d e f) != 0 || sg (cr a b c d g h) != 0) (cr a b c d e f ≠ 0 ∨ cr a b c d g h ≠ 0) (by rw [Bool.or_eq_true, bne_iff_ne, bne_iff_ne, sg_ne, sg_ne])]
  rw [bif_if (decide (W (sg (cr a b c d e f) * sg (cr a b c d g h)) ≤ 0) && decide (W (sg (cr e f g h a b) * sg (cr e f g h c d)) ≤ 0)) (opp (cr a b c d e f) (cr a b c d g h) ∧ opp (cr e f g h a b) (cr e f g h c d)) (by rw [Bool.and_eq_true, decide_eq_true_eq, decide_eq_true_eq, sg_opp, sg_opp])]
def rmt2 (n s t : Int) : Int := if 0 ≤ s ∧ s ≤ n ∧ 0 ≤ t ∧ t ≤ n then 1 else 0
theorem rm2_eq (n s t : Int) : rm2 n s t = rmt2 n s t := by
  unfold rm2 rmt2
  exact bif_if _ _ (by simp only [Bool.and_eq_true, decide_eq_true_eq]; omega) _ _
/-- The same, as the reference says it. -/
def rmt (n A1 A2 C1 C2 k1 k2 k3 k4 : Int) : Int :=
  if k1 = k2 ∧ k3 = k4 ∧ k1 ≠ k3 then 0 else if n = 0 then (if A1 ≠ 0 ∨ A2 ≠ 0 ∨ C1 ≠ 0 ∨ C2 ≠ 0 then 0 else shK k1 k2 k3 k4) else
  if n < 0 then rmt2 (-n) (-C1) A1 else rmt2 n C1 (-A1)
theorem rmeetI_near {a b c d e f g h : Int} (h1 : Nr a b) (h2 : Nr c d) (h3 : Nr e f) (h4 : Nr g h) :
    rmeetI a b c d e f g h = rmt ((c - a) * (h - f) - (d - b) * (g - e)) (cr a b c d e f) (cr a b c d g h) (cr e f g h a b) (cr e f g h c d) (Kp a b) (Kp c d) (Kp e f) (Kp g h) := by
  obtain ⟨x1, b1⟩ := xr_eq h1 h2 h3 h4
  obtain ⟨x2, b2⟩ := xr_eq h1 h3 h3 h4
  obtain ⟨x3, b3⟩ := xr_eq h1 h3 h1 h2
  have y1 : (e - a) * (h - f) - (f - b) * (g - e) = cr e f g h a b := by unfold cr; grind
  have y2 : (e - a) * (d - b) - (f - b) * (c - a) = -cr a b c d e f := by unfold cr; grind
  rw [y1] at x2 b2
  rw [y2] at x3 b3
  unfold rmeetI rmt
  rw [nr4 h1 h2 h3 h4, x1, x2, x3, (xr_eq h1 h2 h1 h3).1, (xr_eq h1 h2 h1 h4).1, (xr_eq h3 h4 h3 h1).1, (xr_eq h3 h4 h3 h2).1, sh_K h1 h2 h3 h4]
  rw [show (c - a) * (f - b) - (d - b) * (e - a) = cr a b c d e f from rfl, show (c - a) * (h - b) - (d - b) * (g - a) = cr a b c d g h from rfl, show (g - e) * (b - f) - (h - f) * (a - e) = cr e f g h a b from rfl, show (g - e) * (d - f) - (h - f) * (c - e) = cr e f g h c d from rfl]
  rw [Bool.not_true, cond_false, rm2_eq, rm2_eq]
  generalize (c - a) * (h - f) - (d - b) * (g - e) = n at *
  generalize cr a b c d e f = A1 at *
  generalize cr a b c d g h = A2 at *
  generalize cr e f g h a b = C1 at *
  generalize cr e f g h c d = C2 at *
  rw [show W (0 - n) = -n from (w64 (by omega) (by omega)).trans (by omega), show W (0 - C1) = -C1 from (w64 (by omega) (by omega)).trans (by omega), show W (0 - -A1) = A1 from (w64 (by omega) (by omega)).trans (by omega)]
  rw [bif_if _ (Kp a b = Kp c d ∧ Kp e f = Kp g h ∧ Kp a b ≠ Kp e f) (by
    rw [Kp_inj h1 h2, Kp_inj h3 h4, ne_eq, Kp_inj h1 h3]
    simp only [Bool.and_eq_true, beq_iff_eq, Bool.not_eq_true', Bool.and_eq_false_iff, beq_eq_false_iff_ne]
    omega)]
  rw [bif_if (n == 0) (n = 0) (by simp), bif_if (decide (n < 0)) (n < 0) (by simp)]
  rw [bif_if (A1 != 0 || A2 != 0 || C1 != 0 || C2 != 0) (A1 ≠ 0 ∨ A2 ≠ 0 ∨ C1 ≠ 0 ∨ C2 ≠ 0) (by simp only [Bool.or_eq_true, bne_iff_ne]; omega)]
/-- Four points: what their areas and places have to do with each other. -/
theorem four (a b c d e f g h : Int) (h1 : Nr a b) (h2 : Nr c d) (h3 : Nr e f) (h4 : Nr g h) :
    (cr a b c d g h = cr a b c d e f + ((c - a) * (h - f) - (d - b) * (g - e))) ∧ (cr e f g h c d = cr e f g h a b - ((c - a) * (h - f) - (d - b) * (g - e))) ∧
    (Kp a b = Kp c d → cr a b c d e f = 0 ∧ cr a b c d g h = 0) ∧ (Kp e f = Kp g h → cr e f g h a b = 0 ∧ cr e f g h c d = 0) ∧
    (Kp a b ≠ Kp c d → cr a b c d e f = 0 → cr a b c d g h = 0 → cr e f g h a b = 0 ∧ cr e f g h c d = 0) ∧ (Kp e f ≠ Kp g h → cr e f g h a b = 0 → cr e f g h c d = 0 → cr a b c d e f = 0 ∧ cr a b c d g h = 0) := by
  have par : ∀ {ux uy vx vy wx wy : Int}, (ux ≠ 0 ∨ uy ≠ 0) → ux * vy - uy * vx = 0 → ux * wy - uy * wx = 0 → vx * wy - vy * wx = 0 := by
    intro ux uy vx vy wx wy hu hv hw
    have k1 : (vx * wy - vy * wx) * ux = 0 := by grind
    have k2 : (vx * wy - vy * wx) * uy = 0 := by grind
    rcases hu with hu | hu
    · exact (Int.mul_eq_zero.1 k1).resolve_right hu
    · exact (Int.mul_eq_zero.1 k2).resolve_right hu
  refine ⟨by unfold cr; grind, by unfold cr; grind, fun hk => ?_, fun hk => ?_, fun hk ha hb => ?_, fun hk ha hb => ?_⟩
  · obtain ⟨rfl, rfl⟩ := (Kp_inj h1 h2).1 hk
    constructor <;> unfold cr <;> grind
  · obtain ⟨rfl, rfl⟩ := (Kp_inj h3 h4).1 hk
    constructor <;> unfold cr <;> grind
  · rw [ne_eq, Kp_inj h1 h2] at hk
    have hu : c - a ≠ 0 ∨ d - b ≠ 0 := by omega
    have p1 := par hu ha hb
    have p2 : cr e f g h a b = 0 := by rw [← p1]; unfold cr; grind
    refine ⟨p2, ?_⟩
    have e1 : cr e f g h c d = cr e f g h a b - (cr a b c d g h - cr a b c d e f) := by unfold cr; grind
    omega
  · rw [ne_eq, Kp_inj h3 h4] at hk
    have hu : g - e ≠ 0 ∨ h - f ≠ 0 := by omega
    have p1 := par hu ha hb
    have p2 : cr a b c d e f = 0 := by rw [← p1]; unfold cr; grind
    refine ⟨p2, ?_⟩
    have e1 : cr a b c d g h = cr a b c d e f - (cr e f g h c d - cr e f g h a b) := by unfold cr; grind
    omega
theorem minx (a b : Int) : min a b ≤ a ∧ min a b ≤ b ∧ (min a b = a ∨ min a b = b) := by omega
theorem maxx (a b : Int) : a ≤ max a b ∧ b ≤ max a b ∧ (max a b = a ∨ max a b = b) := by omega
theorem mt_rmt {n A1 A2 C1 C2 k1 k2 k3 k4 : Int} (f1 : A2 = A1 + n) (f2 : C2 = C1 - n) (f3 : k1 = k2 → A1 = 0 ∧ A2 = 0) (f4 : k3 = k4 → C1 = 0 ∧ C2 = 0) (f5 : k1 ≠ k2 → A1 = 0 → A2 = 0 → C1 = 0 ∧ C2 = 0) :
    mt A1 A2 C1 C2 k1 k2 k3 k4 = rmt n A1 A2 C1 C2 k1 k2 k3 k4 := by
  unfold mt rmt
  by_cases q1 : k1 = k2
  · rw [if_pos q1]
    obtain ⟨rfl, rfl⟩ := f3 q1
    have hn0 : n = 0 := by omega
    subst hn0
    rw [if_pos rfl]
    subst q1
    unfold shK
    rw [Int.min_self, Int.max_self]
    unfold btw
    have m1 := minx k3 k4
    have m2 := maxx k3 k4
    have m3 := maxx k1 (min k3 k4)
    have m4 := minx k1 (max k3 k4)
    (repeat' split) <;> omega
  · rw [if_neg q1]
    by_cases q3 : k3 = k4
    · obtain ⟨rfl, rfl⟩ := f4 q3
      have hn0 : n = 0 := by omega
      subst hn0
      rw [if_pos q3, if_neg (show ¬ (k1 = k2 ∧ k3 = k4 ∧ k1 ≠ k3) by omega), if_pos rfl]
      subst q3
      unfold shK
      rw [Int.min_self, Int.max_self]
      unfold btw
      have m1 := minx k1 k2
      have m2 := maxx k1 k2
      have m3 := maxx (min k1 k2) k3
      have m4 := minx (max k1 k2) k3
      (repeat' split) <;> omega
    · rw [if_neg q3, if_neg (show ¬ (k1 = k2 ∧ k3 = k4 ∧ k1 ≠ k3) by omega)]
      generalize shK k1 k2 k3 k4 = S
      unfold opp rmt2
      (repeat' split) <;> omega
theorem meet_rmeet (a b c d e f g h : Int) : meetI a b c d e f g h = rmeetI a b c d e f g h := by
  by_cases hn : (nr a b && (nr c d && (nr e f && nr g h))) = true
  · obtain ⟨h1, h2, h3, h4⟩ := nr4_iff.1 hn
    rw [meetI_near h1 h2 h3 h4, rmeetI_near h1 h2 h3 h4]
    obtain ⟨f1, f2, f3, f4, f5, _⟩ := four a b c d e f g h h1 h2 h3 h4
    generalize (c - a) * (h - f) - (d - b) * (g - e) = n at *
    generalize cr a b c d e f = A1 at *
    generalize cr a b c d g h = A2 at *
    generalize cr e f g h a b = C1 at *
    generalize cr e f g h c d = C2 at *
    generalize Kp a b = k1 at *
    generalize Kp c d = k2 at *
    generalize Kp e f = k3 at *
    generalize Kp g h = k4 at *
    exact mt_rmt f1 f2 f3 f4 f5
  · have hf := Bool.eq_false_iff.2 hn
    unfold meetI rmeetI
    rw [hf]; rfl
end Go.Proofs.YtgamkmgdbfeigaaM
