/- Movements, quarter turns; points of segments and their distance. -/
import Derived.Test.YtnanlipnhdifgaaPG4
namespace Go.Proofs.YtnanlipnhdifgaaM
open Go Go.RowKit
/-- The arguments of mtR for four points. -/
def mt4 (a b c d e f g h : Int) : Int := mtR (cr a b c d e f) (cr a b c d g h) (cr e f g h a b) (cr e f g h c d) (dt e f g h a b) (dt e f g h c d) (dt a b c d e f) (dt a b c d g h) (nq a b c d) (nq e f g h) (nq a b e f) (nq a b g h) (nq c d e f) (nq c d g h)
theorem meet_mt4 {a b c d e f g h : Int} (h1 : Nr a b) (h2 : Nr c d) (h3 : Nr e f) (h4 : Nr g h) : meetI a b c d e f g h = mt4 a b c d e f g h := by
  rw [meetI_near h1 h2 h3 h4]
  obtain ⟨_, _, f3, f4, f5, f6⟩ := four a b c d e f g h h1 h2 h3 h4
  exact mt_mtR f5 (by rw [nq_0, Kp_inj h1 h2]) (by rw [nq_0, Kp_inj h3 h4]) (by rw [nq_0, Kp_inj h1 h3]) (by rw [nq_0, Kp_inj h1 h4]) (by rw [nq_0, Kp_inj h2 h3]) (by rw [nq_0, Kp_inj h2 h4])
    (fun hc => dt_K h3 h4 h1 hc) (fun hc => dt_K h3 h4 h2 hc) (fun hc => dt_K h1 h2 h3 hc) (fun hc => dt_K h1 h2 h4 hc)
theorem cr_move (a b c d e f x y : Int) : cr (a + x) (b + y) (c + x) (d + y) (e + x) (f + y) = cr a b c d e f := by unfold cr; grind
theorem dt_move (a b c d e f x y : Int) : dt (a + x) (b + y) (c + x) (d + y) (e + x) (f + y) = dt a b c d e f := by unfold dt; grind
theorem nq_move (a b c d x y : Int) : nq (a + x) (b + y) (c + x) (d + y) = nq a b c d := by unfold nq; grind
theorem cr_turn (a b c d e f : Int) : cr (-b) a (-d) c (-f) e = cr a b c d e f := by unfold cr; grind
theorem dt_turn (a b c d e f : Int) : dt (-b) a (-d) c (-f) e = dt a b c d e f := by unfold dt; grind
theorem nq_turn (a b c d : Int) : nq (-b) a (-d) c = nq a b c d := by unfold nq; grind
theorem mt4_move (a b c d e f g h x y : Int) : mt4 (a + x) (b + y) (c + x) (d + y) (e + x) (f + y) (g + x) (h + y) = mt4 a b c d e f g h := by
  unfold mt4; simp only [cr_move, dt_move, nq_move]
theorem mt4_turn (a b c d e f g h : Int) : mt4 (-b) a (-d) c (-f) e (-h) g = mt4 a b c d e f g h := by
  unfold mt4; simp only [cr_turn, dt_turn, nq_turn]
theorem distN_turn (dx dy ux uy vx vy : Int) : distN (-dy) dx (-uy) ux (-vy) vx = distN dx dy ux uy vx vy := by
  unfold distN
  rw [show -uy * -dy + ux * dx = ux * dx + uy * dy by grind, show -uy * -uy + ux * ux = ux * ux + uy * uy by grind, show -dy * -dy + dx * dx = dx * dx + dy * dy by grind, show -vy * -vy + vx * vx = vx * vx + vy * vy by grind, show -dy * ux - dx * -uy = dx * uy - dy * ux by grind]
theorem farN_pos (c n : Nat) (hn : 0 < n) : 1 ≤ (farN c n).2 ∧ 0 ≤ (farN c n).1 ∧ ((farN c n).1 = 0 ↔ c = 0 ∨ (9223372036854775807 < c * c / Nat.gcd n (c * c) ∧ c * c < n)) := by
  have hg : 0 < Nat.gcd n (c * c) := Nat.gcd_pos_of_pos_left _ hn
  have hgn : Nat.gcd n (c * c) ∣ n := Nat.gcd_dvd_left ..
  have hgc : Nat.gcd n (c * c) ∣ c * c := Nat.gcd_dvd_right ..
  have hd : 0 < n / Nat.gcd n (c * c) := Nat.div_pos (Nat.le_of_dvd hn hgn) hg
  unfold farN
  generalize hG : Nat.gcd n (c * c) = g at *
  by_cases hq : c * c / g ≤ 9223372036854775807
  · rw [if_pos hq]
    refine ⟨?_, ?_, ?_⟩
    · show 1 ≤ ((n / g : Nat) : Int)
      generalize n / g = z at *; omega
    · show 0 ≤ ((c * c / g : Nat) : Int)
      generalize c * c / g = z at *; omega
    · show ((c * c / g : Nat) : Int) = 0 ↔ _
      have h0 : c * c / g = 0 ↔ c = 0 := by
        constructor
        · intro h
          have := Nat.eq_zero_of_dvd_of_div_eq_zero hgc h
          rcases Nat.mul_eq_zero.1 this with h | h <;> exact h
        · intro h; subst h; simp
      generalize c * c / g = z at *
      omega
  · rw [if_neg hq]
    refine ⟨Int.le_refl 1, ?_, ?_⟩
    · show 0 ≤ ((c * c / n : Nat) : Int)
      generalize c * c / n = z at *; omega
    · show ((c * c / n : Nat) : Int) = 0 ↔ _
      have h0 : c * c / n = 0 ↔ c * c < n := by
        rw [Nat.div_eq_zero_iff]; omega
      have h1 : c = 0 → c * c / g = 0 := by intro h; subst h; simp
      generalize c * c / g = z at *
      generalize c * c / n = z' at *
      omega
theorem sq0 (x : Int) : 0 ≤ x * x ∧ (x * x = 0 → x = 0) := ⟨sq_nonneg x, fun h => by rcases Int.mul_eq_zero.1 h with h | h <;> exact h⟩
set_option maxHeartbeats 4000000 in
/-- What the distance says of a point and a segment. -/
theorem dist_spec {a b c d e f : Int} (h1 : Nr a b) (h2 : Nr c d) (h3 : Nr e f) : 1 ≤ (dist a b c d e f).2 ∧ 0 ≤ (dist a b c d e f).1 ∧ ((dist a b c d e f).1 = 0 ↔ on a b c d e f = true) := by
  rw [on_eq h1 h2 h3, Bool.and_eq_true, beq_iff_eq, decide_eq_true_eq]
  have hd : dist a b c d e f = distN (c - a) (d - b) (e - a) (f - b) (e - c) (f - d) := by unfold dist; rw [if_pos (nr3_true h1 h2 h3)]
  rw [hd]
  obtain ⟨sdx, sdy, _, _⟩ := h2.d h1
  obtain ⟨sux, suy, _, _⟩ := h3.d h1
  have ecr : cr a b c d e f = (c - a) * (f - b) - (d - b) * (e - a) := rfl
  have evx : e - c = (e - a) - (c - a) := by omega
  have evy : f - d = (f - b) - (d - b) := by omega
  have edt : dt a b c d e f = ((e - a) * (e - a) + (f - b) * (f - b)) - ((e - a) * (c - a) + (f - b) * (d - b)) := by unfold dt; grind
  rw [ecr, edt, evx, evy]
  generalize c - a = dx at *
  generalize d - b = dy at *
  generalize e - a = ux at *
  generalize f - b = uy at *
  obtain ⟨q1, q1'⟩ := sq0 ux
  obtain ⟨q2, q2'⟩ := sq0 uy
  have q3 := (sq0 dx).1
  have q4 := (sq0 dy).1
  have lg := lagr dx dy ux uy
  have b1 := (Sm.dt sdx sdx sdy sdy).2
  have b2 := (Sm.dt sux sux suy suy).2
  have b3 := (Sm.cr sdx suy sdy sux).2
  have z1 : ux * ux + uy * uy = 0 → ux = 0 ∧ uy = 0 := fun h => ⟨q1' (by omega), q2' (by omega)⟩
  unfold distN
  by_cases c1 : ux * dx + uy * dy ≤ 0
  · rw [if_pos c1]
    refine ⟨Int.le_refl 1, by show 0 ≤ ux * ux + uy * uy; omega, ?_⟩
    show ux * ux + uy * uy = 0 ↔ _
    constructor
    · intro h
      obtain ⟨rfl, rfl⟩ := z1 h
      simp
    · rintro ⟨_, h⟩
      omega
  · rw [if_neg c1]
    by_cases c2 : dx * dx + dy * dy ≤ ux * dx + uy * dy
    · rw [if_pos c2]
      have e1 : (ux - dx) * (ux - dx) + (uy - dy) * (uy - dy) = (ux * ux + uy * uy) - (ux * dx + uy * dy) - (ux * dx + uy * dy) + (dx * dx + dy * dy) := by grind
      obtain ⟨w1, w1'⟩ := sq0 (ux - dx)
      obtain ⟨w2, w2'⟩ := sq0 (uy - dy)
      clear lg b1 b2 b3 ecr edt
      refine ⟨Int.le_refl 1, by show 0 ≤ (ux - dx) * (ux - dx) + (uy - dy) * (uy - dy); omega, ?_⟩
      show (ux - dx) * (ux - dx) + (uy - dy) * (uy - dy) = 0 ↔ _
      constructor
      · intro h
        have x1 : ux - dx = 0 := w1' (by omega)
        have x2 : uy - dy = 0 := w2' (by omega)
        have x1 : ux = dx := by omega
        have x2 : uy = dy := by omega
        subst x1 x2
        exact ⟨by rw [Int.mul_comm uy ux]; omega, by omega⟩
      · rintro ⟨_, h⟩
        omega
    · rw [if_neg c2]
      obtain ⟨n, hn⟩ : ∃ n : Nat, dx * dx + dy * dy = (n : Int) := ⟨(dx * dx + dy * dy).toNat, by omega⟩
      obtain ⟨U, hU⟩ : ∃ n : Nat, ux * ux + uy * uy = (n : Int) := ⟨(ux * ux + uy * uy).toNat, by omega⟩
      obtain ⟨D, hD⟩ : ∃ n : Nat, ux * dx + uy * dy = (n : Int) := ⟨(ux * dx + uy * dy).toNat, by omega⟩
      obtain ⟨C, hC⟩ : ∃ C : Int, dx * uy - dy * ux = C := ⟨_, rfl⟩
      rw [hn, hC, Int.toNat_natCast]
      rw [hn, hC, hU, hD] at lg
      rw [hn] at b1
      rw [hU] at b2
      rw [hC] at b3
      rw [hn, hD] at c2
      rw [hD] at c1
      rw [hU, hD]
      clear q1 q2 q3 q4 z1 q1' q2' ecr edt evx evy sdx sdy sux suy hd h1 h2 h3
      have hnp : 0 < n := by omega
      obtain ⟨p1, p2, p3⟩ := farN_pos C.natAbs n hnp
      refine ⟨p1, p2, ?_⟩
      rw [p3]
      have hsq : ((C.natAbs * C.natAbs : Nat) : Int) = C * C := by rw [← Int.natAbs_mul, Int.natAbs_of_nonneg (sq_nonneg C)]
      constructor
      · rintro (h | ⟨h, h'⟩)
        · have hC0 : C = 0 := by omega
          refine ⟨hC0, ?_⟩
          rw [hC0, Int.zero_mul, Int.zero_add] at lg
          have lgn : D * D = n * U := by
            have : ((D * D : Nat) : Int) = ((n * U : Nat) : Int) := by rw [Int.natCast_mul, Int.natCast_mul]; exact lg
            omega
          have hDn : D < n := by omega
          have : D * D ≤ n * D := Nat.mul_le_mul_right _ (Nat.le_of_lt hDn)
          have hUD : n * U ≤ n * D := by omega
          have := Nat.le_of_mul_le_mul_left hUD hnp
          omega
        · exfalso
          have hg : 0 < Nat.gcd n (C.natAbs * C.natAbs) := Nat.gcd_pos_of_pos_left _ hnp
          have h2 : C.natAbs * C.natAbs / Nat.gcd n (C.natAbs * C.natAbs) ≤ C.natAbs * C.natAbs := Nat.div_le_self ..
          omega
      · rintro ⟨h, _⟩
        left; omega
theorem dist_rev {a b c d e f : Int} (h1 : Nr a b) (h2 : Nr c d) (h3 : Nr e f) : dist c d a b e f = dist a b c d e f := by
  have e1 : dist a b c d e f = distN (c - a) (d - b) (e - a) (f - b) (e - c) (f - d) := by unfold dist; rw [if_pos (nr3_true h1 h2 h3)]
  have e2 : dist c d a b e f = distN (a - c) (b - d) (e - c) (f - d) (e - a) (f - b) := by unfold dist; rw [if_pos (nr3_true h2 h1 h3)]
  rw [e1, e2]
  have evx : e - c = (e - a) - (c - a) := by omega
  have evy : f - d = (f - b) - (d - b) := by omega
  rw [evx, evy, show a - c = -(c - a) by omega, show b - d = -(d - b) by omega]
  generalize c - a = dx at *
  generalize d - b = dy at *
  generalize e - a = ux at *
  generalize f - b = uy at *
  obtain ⟨q3, q3'⟩ := sq0 dx
  obtain ⟨q4, q4'⟩ := sq0 dy
  unfold distN
  have i1 : (ux - dx) * -dx + (uy - dy) * -dy = (dx * dx + dy * dy) - (ux * dx + uy * dy) := by grind
  have i2 : -dx * -dx + -dy * -dy = dx * dx + dy * dy := by grind
  have i3 : -dx * (uy - dy) - -dy * (ux - dx) = -(dx * uy - dy * ux) := by grind
  rw [i1, i2, i3, Int.natAbs_neg]
  generalize hL : dx * dx + dy * dy = L at *
  generalize hD : ux * dx + uy * dy = D at *
  by_cases c1 : D ≤ 0
  · rw [if_pos c1]
    by_cases c2 : L - D ≤ 0
    · rw [if_pos c2]
      have x1 : dx = 0 := q3' (by omega)
      have x2 : dy = 0 := q4' (by omega)
      subst x1 x2
      simp
    · rw [if_neg c2, if_pos (by omega)]
  · rw [if_neg c1]
    by_cases c2 : L ≤ D
    · rw [if_pos c2, if_pos (by omega)]
    · rw [if_neg c2, if_neg (by omega), if_neg (by omega)]
/-- A segment meets what begins or ends at one of its points. -/
theorem meet_on {a b c d e f g h : Int} (h1 : Nr a b) (h2 : Nr c d) (h3 : Nr e f) (h4 : Nr g h) (ho : on a b c d g h = true) : 0 < meetI a b c d e f g h := by
  obtain ⟨oc, ob⟩ := (on_K h1 h2 h4).1 ho
  rw [on_eq h1 h2 h4, Bool.and_eq_true, beq_iff_eq, decide_eq_true_eq] at ho
  rw [meetI_near h1 h2 h3 h4]
  obtain ⟨f1, f2, f3, f4, f5, f6⟩ := four a b c d e f g h h1 h2 h3 h4
  -- the areas beyond the point
  have hop : opp (cr e f g h a b) (cr e f g h c d) := by
    have e1 : cr e f g h a b = (g - e) * (b - h) - (h - f) * (a - g) := by unfold cr; grind
    have e2 : cr e f g h c d = (g - e) * (d - h) - (h - f) * (c - g) := by unfold cr; grind
    have ec : (a - g) * (d - h) - (b - h) * (c - g) = 0 := by rw [← oc]; unfold cr; grind
    have ed : (a - g) * (c - g) + (b - h) * (d - h) ≤ 0 := ho.2
    rw [e1, e2]
    generalize g - e = wx at *
    generalize h - f = wy at *
    generalize a - g = ux at *
    generalize b - h = uy at *
    generalize c - g = vx at *
    generalize d - h = vy at *
    have id1 : (wx * vy - wy * vx) * (ux * ux + uy * uy) = (wx * uy - wy * ux) * (ux * vx + uy * vy) := by grind
    obtain ⟨q1, q1'⟩ := sq0 ux
    obtain ⟨q2, q2'⟩ := sq0 uy
    generalize hC1 : wx * uy - wy * ux = P at *
    generalize hC2 : wx * vy - wy * vx = Q at *
    generalize hD : ux * vx + uy * vy = D at *
    have s1 := sgnM Q (ux * ux + uy * uy)
    have s2 := sgnM P D
    by_cases hu : ux = 0 ∧ uy = 0
    · obtain ⟨rfl, rfl⟩ := hu
      have : P = 0 := by rw [← hC1]; simp
      unfold opp; omega
    · have hN : 0 < ux * ux + uy * uy := by
        rcases Int.lt_or_eq_of_le (show 0 ≤ ux * ux + uy * uy by omega) with h | h
        · exact h
        · exact absurd ⟨q1' (by omega), q2' (by omega)⟩ hu
      unfold opp
      generalize ux * ux + uy * uy = N at *
      clear q1 q2 q1' q2' f1 f2 f3 f4 f5 f6 ob
      omega
  unfold mt
  by_cases q : Kp a b = Kp c d
  · rw [if_pos q]
    have hk : Kp g h = Kp a b := by
      unfold btw at ob; rw [← q, Int.min_self, Int.max_self] at ob; omega
    obtain ⟨rfl, rfl⟩ := (Kp_inj h4 h1).1 hk
    rw [if_pos]
    · decide
    · constructor
      · unfold cr; grind
      · unfold btw; omega
  · rw [if_neg q]
    by_cases q2 : Kp e f = Kp g h
    · rw [if_pos q2]
      obtain ⟨rfl, rfl⟩ := (Kp_inj h3 h4).1 q2
      rw [if_pos ⟨oc, ob⟩]
      decide
    · rw [if_neg q2]
      by_cases q3 : cr a b c d e f ≠ 0 ∨ cr a b c d g h ≠ 0
      · rw [if_pos q3, if_pos ⟨by unfold opp; omega, hop⟩]
        decide
      · rw [if_neg q3]
        unfold shK
        unfold btw at ob
        have m1 := minx (Kp a b) (Kp c d)
        have m2 := maxx (Kp a b) (Kp c d)
        have m3 := minx (Kp e f) (Kp g h)
        have m4 := maxx (Kp e f) (Kp g h)
        have m5 := maxx (min (Kp a b) (Kp c d)) (min (Kp e f) (Kp g h))
        have m6 := minx (max (Kp a b) (Kp c d)) (max (Kp e f) (Kp g h))
        split
        · decide
        · split
          · decide
          · omega
theorem meet_pt {a b c d e f : Int} (h1 : Nr a b) (h2 : Nr c d) (h3 : Nr e f) : meetI a b c d e f e f = if on a b c d e f = true then 1 else 0 := by
  rw [meetI_near h1 h2 h3 h3]
  have ho := on_K h1 h2 h3
  unfold mt
  by_cases q : Kp a b = Kp c d
  · rw [if_pos q]
    obtain ⟨rfl, rfl⟩ := (Kp_inj h1 h2).1 q
    have hc : cr a b a b e f = 0 := by unfold cr; grind
    have hc2 : cr e f e f a b = 0 := by unfold cr; grind
    unfold btw at ho
    rw [Int.min_self, Int.max_self] at ho
    by_cases hk : Kp e f = Kp a b
    · rw [if_pos ⟨hc2, by unfold btw; omega⟩, if_pos (ho.2 ⟨hc, by omega⟩)]
    · rw [if_neg (fun h => by have := h.2; unfold btw at this; omega), if_neg (fun h => by have := (ho.1 h).2; omega)]
  · rw [if_neg q, if_pos rfl]
    by_cases hh : on a b c d e f = true
    · rw [if_pos hh, if_pos (ho.1 hh)]
    · rw [if_neg hh, if_neg (fun h => hh (ho.2 h))]
end Go.Proofs.YtnanlipnhdifgaaM
