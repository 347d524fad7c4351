/- What does not change: exchanged ends, exchanged segments, movements and quarter turns. -/
import Derived.Test.YtgamkmgdbfeigaaPG3
import Derived.Test.YtgamkmgdbfeigaaTG2
namespace Go.Proofs.YtgamkmgdbfeigaaM
open Go Go.RowKit
theorem mt_swap {A1 A2 C1 C2 k1 k2 k3 k4 : Int} (f3 : k1 = k2 → A1 = 0 ∧ A2 = 0 ∧ C1 = C2) : mt (-A1) (-A2) C2 C1 k2 k1 k3 k4 = mt A1 A2 C1 C2 k1 k2 k3 k4 := by
  unfold mt
  have e : shK k2 k1 k3 k4 = shK k1 k2 k3 k4 := by unfold shK; rw [Int.min_comm k2 k1, Int.max_comm k2 k1]
  have e2 : btw k2 k1 k3 = btw k1 k2 k3 := by unfold btw; rw [Int.min_comm k2 k1, Int.max_comm k2 k1]
  have g1 : (-A1 = 0) = (A1 = 0) := propext (by omega)
  have g2 : (-A1 ≠ 0 ∨ -A2 ≠ 0) = (A1 ≠ 0 ∨ A2 ≠ 0) := propext (by omega)
  have g3 : opp (-A1) (-A2) = opp A1 A2 := propext (by unfold opp; omega)
  have g4 : opp C2 C1 = opp C1 C2 := propext (by unfold opp; omega)
  by_cases q : k1 = k2
  · subst q
    obtain ⟨_, _, rfl⟩ := f3 rfl
    rw [if_pos rfl, if_pos rfl]
  · rw [if_neg q, if_neg (show ¬ k2 = k1 by omega)]
    simp only [e, e2, g1, g2, g3, g4]
theorem mt_exch {A1 A2 C1 C2 k1 k2 k3 k4 : Int} (f5 : k1 ≠ k2 → A1 = 0 → A2 = 0 → C1 = 0 ∧ C2 = 0) (f6 : k3 ≠ k4 → C1 = 0 → C2 = 0 → A1 = 0 ∧ A2 = 0) (f3 : k1 = k2 → A1 = 0) (f4 : k3 = k4 → C1 = 0) : mt C1 C2 A1 A2 k3 k4 k1 k2 = mt A1 A2 C1 C2 k1 k2 k3 k4 := by
  unfold mt
  have e : shK k3 k4 k1 k2 = shK k1 k2 k3 k4 := by unfold shK; rw [Int.max_comm (min k3 k4), Int.min_comm (max k3 k4)]
  rw [e]
  generalize shK k1 k2 k3 k4 = S
  by_cases q : k1 = k2
  · have := f3 q
    by_cases q2 : k3 = k4
    · have := f4 q2
      rw [if_pos q2, if_pos q]
      subst q q2
      simp only [btw, Int.min_self, Int.max_self]
      (repeat' split) <;> omega
    · rw [if_neg q2, if_pos q, if_pos q]
  · by_cases q2 : k3 = k4
    · rw [if_pos q2, if_neg q, if_pos q2]
    · rw [if_neg q2, if_neg q, if_neg q, if_neg q2]
      unfold opp
      (repeat' split) <;> omega
theorem meet_swap (a b c d e f g h : Int) : meetI c d a b e f g h = meetI a b c d e f g h := by
  by_cases hn : (nr a b && (nr c d && (nr e f && nr g h))) = true
  · obtain ⟨h1, h2, h3, h4⟩ := nr4_iff.1 hn
    rw [meetI_near h1 h2 h3 h4, meetI_near h2 h1 h3 h4]
    have e1 : cr c d a b e f = -cr a b c d e f := by unfold cr; grind
    have e2 : cr c d a b g h = -cr a b c d g h := by unfold cr; grind
    rw [e1, e2]
    refine mt_swap fun hk => ?_
    obtain ⟨_, _, f3, _⟩ := four a b c d e f g h h1 h2 h3 h4
    obtain ⟨rfl, rfl⟩ := (Kp_inj h1 h2).1 hk
    exact ⟨(f3 rfl).1, (f3 rfl).2, rfl⟩
  · have hf := Bool.eq_false_iff.2 hn
    have hf2 : (nr c d && (nr a b && (nr e f && nr g h))) = false := by rw [← hf]; cases nr a b <;> cases nr c d <;> rfl
    unfold meetI
    rw [hf, hf2]; rfl
theorem meet_exch (a b c d e f g h : Int) : meetI e f g h a b c d = meetI a b c d e f g h := by
  by_cases hn : (nr a b && (nr c d && (nr e f && nr g h))) = true
  · obtain ⟨h1, h2, h3, h4⟩ := nr4_iff.1 hn
    rw [meetI_near h1 h2 h3 h4, meetI_near h3 h4 h1 h2]
    obtain ⟨_, _, f3, f4, f5, f6⟩ := four a b c d e f g h h1 h2 h3 h4
    exact mt_exch f5 f6 (fun h => (f3 h).1) fun h => (f4 h).1
  · have hf := Bool.eq_false_iff.2 hn
    have hf2 : (nr e f && (nr g h && (nr a b && nr c d))) = false := by rw [← hf]; cases nr a b <;> cases nr c d <;> cases nr e f <;> cases nr g h <;> rfl
    unfold meetI
    rw [hf, hf2]; rfl
theorem meet_swap2 (a b c d e f g h : Int) : meetI a b c d g h e f = meetI a b c d e f g h := by
  rw [← meet_exch a b c d g h e f, meet_swap, meet_exch]
/-- The square of a distance. -/
def nq (a b c d : Int) : Int := (a - c) * (a - c) + (b - d) * (b - d)
theorem nq_0 (a b c d : Int) : nq a b c d = 0 ↔ a = c ∧ b = d := by
  unfold nq
  have h1 := sgnM (a - c) (a - c)
  have h2 := sgnM (b - d) (b - d)
  omega
/-- The common points of two segments by what no movement changes. -/
def mtR (A1 A2 C1 C2 D1 D2 D3 D4 n12 n34 n13 n14 n23 n24 : Int) : Int :=
  if n12 = 0 then (if C1 = 0 ∧ D1 ≤ 0 then 1 else 0) else if n34 = 0 then (if A1 = 0 ∧ D3 ≤ 0 then 1 else 0) else
  if A1 ≠ 0 ∨ A2 ≠ 0 then (if opp A1 A2 ∧ opp C1 C2 then 1 else 0) else
  if 0 < D1 ∧ 0 < D2 ∧ 0 < D3 ∧ 0 < D4 then 0 else
  if (n13 = 0 ∧ 0 < D2 ∧ 0 < D4) ∨ (n14 = 0 ∧ 0 < D2 ∧ 0 < D3) ∨ (n23 = 0 ∧ 0 < D1 ∧ 0 < D4) ∨ (n24 = 0 ∧ 0 < D1 ∧ 0 < D3) then 1 else 2
theorem dt_K {a b c d e f : Int} (h1 : Nr a b) (h2 : Nr c d) (h3 : Nr e f) (hc : cr a b c d e f = 0) : dt a b c d e f ≤ 0 ↔ btw (Kp a b) (Kp c d) (Kp e f) := by
  have h := on_K h1 h2 h3
  rw [on_eq h1 h2 h3, Bool.and_eq_true, beq_iff_eq, decide_eq_true_eq] at h
  exact ⟨fun hd => (h.1 ⟨hc, hd⟩).2, fun hb => (h.2 ⟨hc, hb⟩).2⟩
def segNone (p1 p2 p3 p4 : Prop) : Prop := ¬ p1 ∧ ¬ p2 ∧ ¬ p3 ∧ ¬ p4
def segTouch (k1 k2 k3 k4 : Int) (p1 p2 p3 p4 : Prop) : Prop := (k1 = k3 ∧ ¬ p2 ∧ ¬ p4) ∨ (k1 = k4 ∧ ¬ p2 ∧ ¬ p3) ∨ (k2 = k3 ∧ ¬ p1 ∧ ¬ p4) ∨ (k2 = k4 ∧ ¬ p1 ∧ ¬ p3)
theorem seg_core {x1 x2 y1 y2 : Int} (hx : x1 < x2) (hy : y1 < y2) : (min x2 y2 < max x1 y1 ∧ segNone (y1 ≤ x1 ∧ x1 ≤ y2) (y1 ≤ x2 ∧ x2 ≤ y2) (x1 ≤ y1 ∧ y1 ≤ x2) (x1 ≤ y2 ∧ y2 ≤ x2)) ∨
    (max x1 y1 = min x2 y2 ∧ ¬ segNone (y1 ≤ x1 ∧ x1 ≤ y2) (y1 ≤ x2 ∧ x2 ≤ y2) (x1 ≤ y1 ∧ y1 ≤ x2) (x1 ≤ y2 ∧ y2 ≤ x2) ∧ segTouch x1 x2 y1 y2 (y1 ≤ x1 ∧ x1 ≤ y2) (y1 ≤ x2 ∧ x2 ≤ y2) (x1 ≤ y1 ∧ y1 ≤ x2) (x1 ≤ y2 ∧ y2 ≤ x2)) ∨
    (max x1 y1 < min x2 y2 ∧ ¬ segNone (y1 ≤ x1 ∧ x1 ≤ y2) (y1 ≤ x2 ∧ x2 ≤ y2) (x1 ≤ y1 ∧ y1 ≤ x2) (x1 ≤ y2 ∧ y2 ≤ x2) ∧ ¬ segTouch x1 x2 y1 y2 (y1 ≤ x1 ∧ x1 ≤ y2) (y1 ≤ x2 ∧ x2 ≤ y2) (x1 ≤ y1 ∧ y1 ≤ x2) (x1 ≤ y2 ∧ y2 ≤ x2)) := by
  have m5 := maxx x1 y1
  have m6 := minx x2 y2
  unfold segNone segTouch
  rcases Int.lt_trichotomy (max x1 y1) (min x2 y2) with h | h | h
  · exact .inr (.inr ⟨h, by omega, by omega⟩)
  · exact .inr (.inl ⟨h, by omega, by omega⟩)
  · exact .inl ⟨h, by omega⟩
theorem shK_seg {k1 k2 k3 k4 lo hi : Int} (e1 : max (min k1 k2) (min k3 k4) = lo) (e2 : min (max k1 k2) (max k3 k4) = hi) : shK k1 k2 k3 k4 = if lo = hi then 1 else if lo < hi then 2 else 0 := by
  unfold shK; rw [e1, e2]
theorem shK_core {k1 k2 k3 k4 : Int} (q : ¬ k1 = k2) (q2 : ¬ k3 = k4) :
    (shK k1 k2 k3 k4 = 0 ∧ segNone (btw k3 k4 k1) (btw k3 k4 k2) (btw k1 k2 k3) (btw k1 k2 k4)) ∨
    (shK k1 k2 k3 k4 = 1 ∧ ¬ segNone (btw k3 k4 k1) (btw k3 k4 k2) (btw k1 k2 k3) (btw k1 k2 k4) ∧ segTouch k1 k2 k3 k4 (btw k3 k4 k1) (btw k3 k4 k2) (btw k1 k2 k3) (btw k1 k2 k4)) ∨
    (shK k1 k2 k3 k4 = 2 ∧ ¬ segNone (btw k3 k4 k1) (btw k3 k4 k2) (btw k1 k2 k3) (btw k1 k2 k4) ∧ ¬ segTouch k1 k2 k3 k4 (btw k3 k4 k1) (btw k3 k4 k2) (btw k1 k2 k3) (btw k1 k2 k4)) := by
  have fin : ∀ {x1 x2 y1 y2 : Int} {P1 P2 P3 P4 N T : Prop}, x1 < x2 → y1 < y2 → (min x2 y2 < max x1 y1 ∧ P1) ∨ (max x1 y1 = min x2 y2 ∧ P2 ∧ P3) ∨ (max x1 y1 < min x2 y2 ∧ P2 ∧ P4) → (P1 → N) → (P2 → ¬ N) → (P3 → T) → (P4 → ¬ T) →
      ((if max x1 y1 = min x2 y2 then (1 : Int) else if max x1 y1 < min x2 y2 then 2 else 0) = 0 ∧ N) ∨ ((if max x1 y1 = min x2 y2 then (1 : Int) else if max x1 y1 < min x2 y2 then 2 else 0) = 1 ∧ ¬ N ∧ T) ∨ ((if max x1 y1 = min x2 y2 then (1 : Int) else if max x1 y1 < min x2 y2 then 2 else 0) = 2 ∧ ¬ N ∧ ¬ T) := by
    intro x1 x2 y1 y2 P1 P2 P3 P4 N T hx hy h a1 a2 a3 a4
    rcases h with ⟨h, h1⟩ | ⟨h, h1, h2⟩ | ⟨h, h1, h2⟩
    · left; rw [if_neg (by omega), if_neg (by omega)]; exact ⟨rfl, a1 h1⟩
    · right; left; rw [if_pos h]; exact ⟨rfl, a2 h1, a3 h2⟩
    · right; right; rw [if_neg (by omega), if_pos h]; exact ⟨rfl, a2 h1, a4 h2⟩
  unfold shK btw
  rcases Int.lt_or_gt_of_ne q with o1 | o1 <;> rcases Int.lt_or_gt_of_ne q2 with o2 | o2
  · rw [Int.min_eq_left (Int.le_of_lt o1), Int.max_eq_right (Int.le_of_lt o1), Int.min_eq_left (Int.le_of_lt o2), Int.max_eq_right (Int.le_of_lt o2)]
    exact fin o1 o2 (seg_core o1 o2) id id id id
  · rw [Int.min_eq_left (Int.le_of_lt o1), Int.max_eq_right (Int.le_of_lt o1), Int.min_eq_right (Int.le_of_lt o2), Int.max_eq_left (Int.le_of_lt o2)]
    refine fin o1 o2 (seg_core o1 o2) ?_ ?_ ?_ ?_ <;> first | (unfold segNone; omega) | (unfold segTouch; omega)
  · rw [Int.min_eq_right (Int.le_of_lt o1), Int.max_eq_left (Int.le_of_lt o1), Int.min_eq_left (Int.le_of_lt o2), Int.max_eq_right (Int.le_of_lt o2)]
    refine fin o1 o2 (seg_core o1 o2) ?_ ?_ ?_ ?_ <;> first | (unfold segNone; omega) | (unfold segTouch; omega)
  · rw [Int.min_eq_right (Int.le_of_lt o1), Int.max_eq_left (Int.le_of_lt o1), Int.min_eq_right (Int.le_of_lt o2), Int.max_eq_left (Int.le_of_lt o2)]
    refine fin o1 o2 (seg_core o1 o2) ?_ ?_ ?_ ?_ <;> first | (unfold segNone; omega) | (unfold segTouch; omega)
theorem mt_mtR {A1 A2 C1 C2 k1 k2 k3 k4 D1 D2 D3 D4 n12 n34 n13 n14 n23 n24 : Int} (f5 : k1 ≠ k2 → A1 = 0 → A2 = 0 → C1 = 0 ∧ C2 = 0)
    (e12 : n12 = 0 ↔ k1 = k2) (e34 : n34 = 0 ↔ k3 = k4) (e13 : n13 = 0 ↔ k1 = k3) (e14 : n14 = 0 ↔ k1 = k4) (e23 : n23 = 0 ↔ k2 = k3) (e24 : n24 = 0 ↔ k2 = k4)
    (d1 : C1 = 0 → (D1 ≤ 0 ↔ btw k3 k4 k1)) (d2 : C2 = 0 → (D2 ≤ 0 ↔ btw k3 k4 k2)) (d3 : A1 = 0 → (D3 ≤ 0 ↔ btw k1 k2 k3)) (d4 : A2 = 0 → (D4 ≤ 0 ↔ btw k1 k2 k4)) :
    mt A1 A2 C1 C2 k1 k2 k3 k4 = mtR A1 A2 C1 C2 D1 D2 D3 D4 n12 n34 n13 n14 n23 n24 := by
  unfold mt mtR
  by_cases q : k1 = k2
  · rw [if_pos q, if_pos (e12.2 q)]
    by_cases qc : C1 = 0
    · have := d1 qc
      by_cases hb : btw k3 k4 k1
      · rw [if_pos ⟨qc, hb⟩, if_pos ⟨qc, this.2 hb⟩]
      · rw [if_neg (fun h => hb h.2), if_neg (fun h => hb (this.1 h.2))]
    · rw [if_neg (fun h => qc h.1), if_neg (fun h => qc h.1)]
  · rw [if_neg q, if_neg (fun h => q (e12.1 h))]
    by_cases q2 : k3 = k4
    · rw [if_pos q2, if_pos (e34.2 q2)]
      by_cases qc : A1 = 0
      · have := d3 qc
        by_cases hb : btw k1 k2 k3
        · rw [if_pos ⟨qc, hb⟩, if_pos ⟨qc, this.2 hb⟩]
        · rw [if_neg (fun h => hb h.2), if_neg (fun h => hb (this.1 h.2))]
      · rw [if_neg (fun h => qc h.1), if_neg (fun h => qc h.1)]
    · rw [if_neg q2, if_neg (fun h => q2 (e34.1 h))]
      by_cases q3 : A1 ≠ 0 ∨ A2 ≠ 0
      · rw [if_pos q3, if_pos q3]
      · rw [if_neg q3, if_neg q3]
        have a1 : A1 = 0 := by omega
        have a2 : A2 = 0 := by omega
        obtain ⟨c1, c2⟩ := f5 q a1 a2
        have d1 := d1 c1
        have d2 := d2 c2
        have d3 := d3 a1
        have d4 := d4 a2
        rcases shK_core q q2 with ⟨h1, h2⟩ | ⟨h1, h2, h3⟩ | ⟨h1, h2, h3⟩
        · unfold segNone at h2
          rw [← d1, ← d2, ← d3, ← d4] at h2
          rw [h1, if_pos (by omega)]
        · unfold segNone at h2
          unfold segTouch at h3
          rw [← d1, ← d2, ← d3, ← d4] at h2 h3
          rw [← e13, ← e14, ← e23, ← e24] at h3
          rw [h1, if_neg (by omega), if_pos (by omega)]
        · unfold segNone at h2
          unfold segTouch at h3
          rw [← d1, ← d2, ← d3, ← d4] at h2 h3
          rw [← e13, ← e14, ← e23, ← e24] at h3
          rw [h1, if_neg (by omega), if_neg (by omega)]
end Go.Proofs.YtgamkmgdbfeigaaM
