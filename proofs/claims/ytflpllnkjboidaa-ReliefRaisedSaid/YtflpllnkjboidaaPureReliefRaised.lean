/- The pure statement of the law ReliefRaised: what is left of it when the program is taken out. -/
import Derived.Test.YtflpllnkjboidaaLibAwake45
import Derived.Test.YtflpllnkjboidaaLibGrid
import Derived.Test.YtflpllnkjboidaaLibRelief2
import Derived.Test.YtflpllnkjboidaaLibRelief3
import Derived.Test.YtflpllnkjboidaaLibRelief4
import Derived.Test.YtflpllnkjboidaaPAllx16
namespace Go.Proofs.Ytflpllnkjboidaa.Pure
open Go.RowKit Go.Proofs.Ytflpllnkjboidaa.PAll Go.Proofs.YtflpllnkjboidaaW.PrintWords Go.Proofs.YtflpllnkjboidaaW.PrintLast
theorem rd_map (l : List Int) (g : Int → Int) {i : Int} (h0 : 0 ≤ i) (h1 : i < l.length) : rd (l.map g) i = g (rd l i) := by
  obtain ⟨n, rfl⟩ : ∃ n : Nat, i = n := ⟨i.toNat, by omega⟩
  have hn : n < l.length := by omega
  rw [rd_get l n hn, rd_get (l.map g) n (by rw [List.length_map]; exact hn), List.getElem_map]
theorem raise_loop (a x y c r s x' y' c' r' s' : Int) (l : List Int) (hl : l.length ≤ 4200) : ∀ (m i k : Nat) (acc : List Int), i + m = l.length → acc.length + m ≤ 10000 → mapsheetslaw45_ReliefRaised.l0 (k + m + 1) a (i : Int) x y c r s l x' y' c' r' s' acc = mapsheetslaw45_ReliefRaised.l0 (k + 1) a (l.length : Int) x y c r s l x' y' c' r' s' (acc ++ (l.drop i).map (fun v => wrap64 (v + a)))
  | 0, i, k, acc, hi, ha => by
    have : i = l.length := by omega
    subst this
    rw [List.drop_eq_nil_of_le (Nat.le_refl _), List.map_nil, List.append_nil, Nat.add_zero]
  | m + 1, i, k, acc, hi, ha => by
    have hlt : i < l.length := by omega
    rw [show k + (m + 1) + 1 = (k + m + 1) + 1 by omega, mapsheetslaw45_ReliefRaised.l0, if_pos (by omega), if_pos (by omega), if_pos (by omega), rd_get l i hlt, show wrap64 ((i : Int) + 1) = ((i + 1 : Nat) : Int) by rw [w64 (by omega)]; omega]
    rw [raise_loop a x y c r s x' y' c' r' s' l hl m (i + 1) k _ (by omega) (by rw [List.length_append, List.length_singleton]; omega), List.drop_eq_getElem_cons hlt, List.map_cons, List.append_assoc]
    rfl
theorem hgt_map {l : List Int} {c r : Int} (g : Int → Int) (hn : (l.length : Int) = c * r) {a b : Int} (ha : 0 ≤ a ∧ a < c) (hb : 0 ≤ b ∧ b < r) : hgt (l.map g) c a b = g (hgt l c a b) := by
  have := cell_lt ha hb
  unfold hgt; exact rd_map l g this.1 (by omega)
theorem ReliefRaised : mapsheetslaw45_ReliefRaised.Pure := by
  intro x y c r s l a w1 w2 w3 w4 w5 w6 w7 w8
  suffices h : ∀ k, 200000 ≤ k → mapsheetslaw45_ReliefRaised.f k x y c r s l a = some true from ⟨200000, h _ (Nat.le_refl _)⟩
  intro k hk
  obtain ⟨k, rfl⟩ : ∃ j, k = j + 2 := ⟨k - 2, by omega⟩
  have j0t : ∀ x y c r s l, mapsheetslaw45_ReliefRaised.j0 (k + 2) a true x y c r s l = some true := by
    intro x y c r s l
    simp only [mapsheetslaw45_ReliefRaised.j0]
    rw [if_pos trivial, awake_eq _ (by omega), Option.bind_some]
  unfold mapsheetslaw45_ReliefRaised.f
  rw [fair_eq, Option.bind_some]
  by_cases hl' : (l.length : Int) ≤ 4200
  case neg => rw [if_neg (by rw [decide_eq_true_eq]; exact hl'), j0t]
  have hl : l.length ≤ 4200 := by omega
  rw [if_pos (decide_eq_true hl'), ref43_Check_eq x y c r s l hl _ (by omega), Option.bind_some]
  by_cases h0 : chkS x y c r s l = 0
  case neg => rw [if_neg h0, j0t]
  rw [if_pos h0]
  by_cases ha : a < -20000
  · rw [if_pos ha, j0t]
  rw [if_neg ha]
  by_cases ha' : a > 20000
  · rw [decide_eq_true ha', j0t]
  rw [decide_eq_false ha']
  simp only [mapsheetslaw45_ReliefRaised.j0]
  rw [if_neg (by decide)]
  have := raise_loop a x y c r s x y c r s l hl l.length 0 (k - l.length) [] (by omega) (by rw [List.length_nil]; omega)
  rw [show k - l.length + l.length + 1 = k + 1 by omega, List.nil_append, List.drop_zero] at this
  rw [show ((0 : Nat) : Int) = 0 from rfl] at this
  rw [this, mapsheetslaw45_ReliefRaised.l0, if_neg (by omega)]
  generalize hL : l.map (fun v => wrap64 (v + a)) = L
  have hLl : L.length ≤ 4200 := by rw [← hL, List.length_map]; exact hl
  rw [ref43_Check_eq x y c r s L hLl _ (by omega), Option.bind_some]
  by_cases h1 : chkS x y c r s L = 0
  case neg => rw [if_neg h1, awake_eq _ (by omega), Option.bind_some]
  rw [if_pos h1, relief_All_eq x y c r s l hl _ (by omega), Option.bind_some, relief_All_eq x y c r s L hLl _ (by omega), Option.bind_some]
  have hA : allS x y c r s L = allS x y c r s l := by
    unfold allS
    rw [if_pos h0, if_pos h1]
    obtain ⟨hf, hn, hb⟩ := chkS_zero h0
    have hc := hf.2.2.1
    have hr := hf.2.2.2.1
    have hh : ∀ p q : Int, (0 ≤ p ∧ p < c) → (0 ≤ q ∧ q < r) → hgt L c p q = hgt l c p q + a := by
      intro p q hp hq
      have hr1 := hgt_range hf hn hb hp hq
      rw [← hL, hgt_map _ hn hp hq, w64 (by omega)]
    congr 3
    refine allL_congr _ _ (fun i j q1 q2 q3 => ?_)
    unfold shF gradX gradY
    rw [hh i j (by omega) (by omega), hh (i + 1) j (by omega) (by omega), hh i (j + 1) (by omega) (by omega), hh (i + 1) (j + 1) (by omega) (by omega)]
    congr 1 <;> omega
  have hlen := allS_len x y c r s l
  have he : (allS x y c r s l).2.2.2 = 0 := by unfold allS; rw [if_pos h0]
  rw [hA, if_pos he, if_pos he, same_eq _ _ _ (by omega) _ (by omega), Option.bind_some, if_pos rfl, awake_eq _ (by omega), Option.bind_some]
end Go.Proofs.Ytflpllnkjboidaa.Pure
