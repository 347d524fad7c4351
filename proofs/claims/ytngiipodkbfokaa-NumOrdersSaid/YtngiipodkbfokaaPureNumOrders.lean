/- The pure statement of the law NumOrders: what is left of it when the program is taken out. -/
import Derived.Test.YtngiipodkbfokaaLibAwake01
import Derived.Test.YtngiipodkbfokaaLibFcmp
import Derived.Test.YtngiipodkbfokaaLibFrac
import Derived.Test.YtngiipodkbfokaaLibFracl
import Derived.Test.YtngiipodkbfokaaLibNum
import Derived.Test.YtngiipodkbfokaaPAllx21
namespace Go.Proofs.Ytngiipodkbfokaa.Pure
open Go.RowKit Go.Proofs.Ytngiipodkbfokaa.PAll Go.Proofs.YtngiipodkbfokaaW.PrintWords Go.Proofs.YtngiipodkbfokaaW.PrintLast
theorem i16wf {a : Int} (h : (Lit.int .i16 a).wf = true) : -32768 ≤ a ∧ a ≤ 32767 := by
  simp only [Lit.wf, IntKind.min, IntKind.max, IntKind.signed, IntKind.bits, Bool.and_eq_true] at h
  exact ⟨by have := h.1; simp at this; omega, by have := h.2; simp at this; omega⟩
theorem small_mul {n d : Int} (hn : -32768 ≤ n ∧ n ≤ 32768) (hd : 0 ≤ d ∧ d ≤ 32768) : -1073741824 ≤ n * d ∧ n * d ≤ 1073741824 := by
  have h1 : n * d ≤ 32768 * d := Int.mul_le_mul_of_nonneg_right hn.2 hd.1
  have h2 : -32768 * d ≤ n * d := Int.mul_le_mul_of_nonneg_right hn.1 hd.1
  omega
theorem NumOrders : mapsheetslaw01_NumOrders.Pure := by
  intro a1 b1 a2 b2 a3 b3 w1 w2 w3 w4 w5 w6
  have h1 := i16wf w1
  have h2 := i16wf w2
  have h3 := i16wf w3
  have h4 := i16wf w4
  have h5 := i16wf w5
  have h6 := i16wf w6
  suffices h : ∀ k, 9223372036854775830 ≤ k → mapsheetslaw01_NumOrders.f k a1 b1 a2 b2 a3 b3 = some true from ⟨9223372036854775830, h _ (Nat.le_refl _)⟩
  intro k hk
  obtain ⟨k, rfl⟩ : ∃ j, k = j + 3 := ⟨k - 3, by omega⟩
  unfold mapsheetslaw01_NumOrders.f
  rw [w64 (x := a1) (by omega), w64 (x := b1) (by omega), w64 (x := a2) (by omega), w64 (x := b2) (by omega), w64 (x := a3) (by omega), w64 (x := b3) (by omega),
    num_Make_eq (by omega) (by omega) _ (by omega), Option.bind_some, num_Make_eq (by omega) (by omega) _ (by omega), Option.bind_some, num_Make_eq (by omega) (by omega) _ (by omega), Option.bind_some]
  have j0t : ∀ e1 e2 e3 n1 d1 n2 d2 n3 d3, mapsheetslaw01_NumOrders.j0 (k + 3) e1 e2 e3 true n1 d1 n2 d2 n3 d3 = some true := by
    intro e1 e2 e3 n1 d1 n2 d2 n3 d3
    simp only [mapsheetslaw01_NumOrders.j0]
    rw [if_pos trivial, awake_eq _ (by omega), Option.bind_some]
  by_cases z1 : b1 = 0
  · rw [if_pos z1, j0t]
  rw [if_neg z1]
  by_cases z2 : b2 = 0
  · rw [if_pos z2, j0t]
  rw [if_neg z2]
  by_cases z3 : b3 = 0
  · rw [beq_iff_eq.2 z3, j0t]
  rw [beq_eq_false_iff_ne.2 z3]
  obtain ⟨s1, s2, s3⟩ := makeS_small h1 h2 z1
  obtain ⟨t1, t2, t3⟩ := makeS_small h3 h4 z2
  obtain ⟨u1, u2, u3⟩ := makeS_small h5 h6 z3
  have v1 := makeS_valid s1
  have v2 := makeS_valid t1
  have v3 := makeS_valid u1
  generalize makeS a1 b1 = F1 at *
  generalize makeS a2 b2 = F2 at *
  generalize makeS a3 b3 = F3 at *
  obtain ⟨n1, d1, e1⟩ := F1
  obtain ⟨n2, d2, e2⟩ := F2
  obtain ⟨n3, d3, e3⟩ := F3
  dsimp only at *
  subst s1; subst t1; subst u1
  have p1 : 0 < d1 := (of_decide_eq_true v1).1
  have p2 : 0 < d2 := (of_decide_eq_true v2).1
  have p3 : 0 < d3 := (of_decide_eq_true v3).1
  have m1 := small_mul s2 t3
  have m2 := small_mul t2 s3
  have c12 : cmpS n1 d1 n2 d2 = sgn (n1 * d2) (n2 * d1) := by unfold cmpS; rw [if_pos ⟨v1, v2⟩]
  have c23 : cmpS n2 d2 n3 d3 = sgn (n2 * d3) (n3 * d2) := by unfold cmpS; rw [if_pos ⟨v2, v3⟩]
  have c13 : cmpS n1 d1 n3 d3 = sgn (n1 * d3) (n3 * d1) := by unfold cmpS; rw [if_pos ⟨v1, v3⟩]
  simp only [mapsheetslaw01_NumOrders.j0]
  rw [if_neg (by decide), if_pos trivial, if_pos trivial, bne_self_eq_false]
  simp only [mapsheetslaw01_NumOrders.j1]
  rw [if_neg (by decide), num_Cmp_eq (by omega) (by omega) (by omega) (by omega) _ (by omega), Option.bind_some, w64 (x := n1 * d2) (by omega), w64 (x := n2 * d1) (by omega), c12]
  have j2f : mapsheetslaw01_NumOrders.j2 (k + 1) (sgn (n1 * d2) (n2 * d1)) false n1 d1 n2 d2 n3 d3 = some true := by
    simp only [mapsheetslaw01_NumOrders.j2]
    rw [if_neg (by decide), awake_eq _ (by omega), Option.bind_some, if_pos rfl]
    by_cases g1 : sgn (n1 * d2) (n2 * d1) > 0
    · rw [if_pos g1]
    · rw [if_neg g1, num_Cmp_eq (by omega) (by omega) (by omega) (by omega) _ (by omega), Option.bind_some, c23]
      by_cases g2 : sgn (n2 * d3) (n3 * d2) > 0
      · rw [if_pos g2]
      · rw [if_neg g2, num_Cmp_eq (by omega) (by omega) (by omega) (by omega) _ (by omega), Option.bind_some, c13]
        have l1 : n1 * d2 ≤ n2 * d1 := by rcases sgn_range (n1 * d2) (n2 * d1) with ⟨e, h⟩ | ⟨e, h⟩ | ⟨e, h⟩ <;> omega
        have l2 : n2 * d3 ≤ n3 * d2 := by rcases sgn_range (n2 * d3) (n3 * d2) with ⟨e, h⟩ | ⟨e, h⟩ | ⟨e, h⟩ <;> omega
        have l3 := le_trans3 p1 p2 p3 l1 l2
        have : sgn (n1 * d3) (n3 * d1) ≤ 0 := by rcases sgn_range (n1 * d3) (n3 * d1) with ⟨e, h⟩ | ⟨e, h⟩ | ⟨e, h⟩ <;> omega
        rw [decide_eq_true this]
  have q1 : ((sgn (n1 * d2) (n2 * d1) == 0) != ((n1 * d2) == (n2 * d1))) = false := by
    rcases sgn_range (n1 * d2) (n2 * d1) with ⟨e, h⟩ | ⟨e, h⟩ | ⟨e, h⟩ <;> rw [e]
    · rw [beq_eq_false_iff_ne.2 (show n1 * d2 ≠ n2 * d1 by omega)]; rfl
    · rw [beq_eq_false_iff_ne.2 (show n1 * d2 ≠ n2 * d1 by omega)]; rfl
    · rw [beq_iff_eq.2 h]; rfl
  have q2 : ((decide (sgn (n1 * d2) (n2 * d1) < 0)) != (decide ((n1 * d2) < (n2 * d1)))) = false := by
    rcases sgn_range (n1 * d2) (n2 * d1) with ⟨e, h⟩ | ⟨e, h⟩ | ⟨e, h⟩ <;> rw [e]
    · rw [decide_eq_true (show n1 * d2 < n2 * d1 by omega)]; rfl
    · rw [decide_eq_false (show ¬ n1 * d2 < n2 * d1 by omega)]; rfl
    · rw [decide_eq_false (show ¬ n1 * d2 < n2 * d1 by omega)]; rfl
  have q3 : ((sgn (n1 * d2) (n2 * d1) == 0) != (n1 == n2 && (d1 == d2))) = false := by
    by_cases hE : n1 * d2 = n2 * d1
    · obtain ⟨rfl, rfl⟩ := valid_unique v1 v2 hE
      have : sgn (n1 * d1) (n1 * d1) = 0 := by unfold sgn; rw [if_neg (by omega), if_neg (by omega)]
      rw [this, beq_self_eq_true, beq_self_eq_true, beq_self_eq_true]; rfl
    · have hne : (n1 == n2 && (d1 == d2)) = false := by
        cases hx : (n1 == n2 && (d1 == d2)) with
        | false => rfl
        | true =>
          rw [Bool.and_eq_true, beq_iff_eq, beq_iff_eq] at hx
          obtain ⟨rfl, rfl⟩ := hx
          exact absurd rfl hE
      have : (sgn (n1 * d2) (n2 * d1) == 0) = false := by
        rcases sgn_range (n1 * d2) (n2 * d1) with ⟨e, h⟩ | ⟨e, h⟩ | ⟨e, h⟩
        · rw [e]; rfl
        · rw [e]; rfl
        · exact absurd h hE
      rw [hne, this]; rfl
  rw [q1, q2, q3, if_neg (by decide), if_neg (by decide), j2f]
end Go.Proofs.Ytngiipodkbfokaa.Pure
