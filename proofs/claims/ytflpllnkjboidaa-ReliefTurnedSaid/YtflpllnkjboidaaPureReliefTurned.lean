/- The pure statement of the law ReliefTurned: what is left of it when the program is taken out. -/
import Derived.Test.YtflpllnkjboidaaLibAwake45
import Derived.Test.YtflpllnkjboidaaLibGrid
import Derived.Test.YtflpllnkjboidaaLibRelief2
import Derived.Test.YtflpllnkjboidaaPAllx17
namespace Go.Proofs.Ytflpllnkjboidaa.Pure
open Go.RowKit Go.Proofs.Ytflpllnkjboidaa.PAll Go.Proofs.YtflpllnkjboidaaW.PrintWords Go.Proofs.YtflpllnkjboidaaW.PrintLast
theorem rd_map (l : List Int) (g : Int → Int) {i : Int} (h0 : 0 ≤ i) (h1 : i < l.length) : rd (l.map g) i = g (rd l i) := by
  obtain ⟨n, rfl⟩ : ∃ n : Nat, i = n := ⟨i.toNat, by omega⟩
  have hn : n < l.length := by omega
  rw [rd_get l n hn, rd_get (l.map g) n (by rw [List.length_map]; exact hn), List.getElem_map]
theorem hgt_map {l : List Int} {c r : Int} (g : Int → Int) (hn : (l.length : Int) = c * r) {a b : Int} (ha : 0 ≤ a ∧ a < c) (hb : 0 ≤ b ∧ b < r) : hgt (l.map g) c a b = g (hgt l c a b) := by
  have := cell_lt ha hb
  unfold hgt; exact rd_map l g this.1 (by omega)
theorem turn_loop (a b x y c r s x' y' c' r' s' : Int) (l : List Int) (hl : l.length ≤ 4200) : ∀ (m i k : Nat) (acc : List Int), i + m = l.length → acc.length + m ≤ 10000 → mapsheetslaw45_ReliefTurned.l0 (k + m + 1) a b (i : Int) x y c r s l x' y' c' r' s' acc = mapsheetslaw45_ReliefTurned.l0 (k + 1) a b (l.length : Int) x y c r s l x' y' c' r' s' (acc ++ (l.drop i).map (fun v => wrap64 (-v)))
  | 0, i, k, acc, hi, ha => by
    have : i = l.length := by omega
    subst this
    rw [List.drop_eq_nil_of_le (Nat.le_refl _), List.map_nil, List.append_nil, Nat.add_zero]
  | m + 1, i, k, acc, hi, ha => by
    have hlt : i < l.length := by omega
    rw [show k + (m + 1) + 1 = (k + m + 1) + 1 by omega, mapsheetslaw45_ReliefTurned.l0, if_pos (by omega), if_pos (by omega), if_pos (by omega), rd_get l i hlt, show wrap64 ((i : Int) + 1) = ((i + 1 : Nat) : Int) by rw [w64 (by omega)]; omega]
    rw [turn_loop a b x y c r s x' y' c' r' s' l hl m (i + 1) k _ (by omega) (by rw [List.length_append, List.length_singleton]; omega), List.drop_eq_getElem_cons hlt, List.map_cons, List.append_assoc]
    rfl
theorem ReliefTurned : mapsheetslaw45_ReliefTurned.Pure := by
  intro x y c r s l a b w1 w2 w3 w4 w5 w6 w7 w8 w9
  have wa := i64wf w8
  have wb := i64wf w9
  suffices h : ∀ k, 200000 ≤ k → mapsheetslaw45_ReliefTurned.f k x y c r s l a b = some true from ⟨200000, h _ (Nat.le_refl _)⟩
  intro k hk
  obtain ⟨k, rfl⟩ : ∃ j, k = j + 2 := ⟨k - 2, by omega⟩
  have j0t : ∀ x y c r s l, mapsheetslaw45_ReliefTurned.j0 (k + 2) a b true x y c r s l = some true := by
    intro x y c r s l
    simp only [mapsheetslaw45_ReliefTurned.j0]
    rw [if_pos trivial, awake_eq _ (by omega), Option.bind_some]
  unfold mapsheetslaw45_ReliefTurned.f
  rw [fair_eq, Option.bind_some]
  by_cases hl' : (l.length : Int) ≤ 4200
  case neg => rw [if_neg (by rw [decide_eq_true_eq]; exact hl'), j0t]
  have hl : l.length ≤ 4200 := by omega
  rw [if_pos (decide_eq_true hl'), ref43_Check_eq x y c r s l hl _ (by omega), Option.bind_some]
  by_cases h0 : chkS x y c r s l = 0
  case neg => rw [if_neg h0, j0t]
  obtain ⟨hf, hn, hb⟩ := chkS_zero h0
  have hc := hf.2.2.1
  have hr := hf.2.2.2.1
  rw [if_pos h0, w64 (x := c - 1) (by omega), w64 (x := r - 1) (by omega)]
  by_cases c1 : a < 0
  · rw [if_pos c1, j0t]
  rw [if_neg c1]
  by_cases c2 : b < 0
  · rw [if_pos c2, j0t]
  rw [if_neg c2]
  by_cases c3 : a ≥ c - 1
  · rw [if_pos c3, j0t]
  rw [if_neg c3]
  by_cases c4 : b ≥ r - 1
  · rw [decide_eq_true c4, j0t]
  rw [decide_eq_false c4]
  have hi : insideC c r a b := by unfold insideC; omega
  simp only [mapsheetslaw45_ReliefTurned.j0]
  rw [if_neg (by decide)]
  have := turn_loop a b x y c r s x y c r s l hl l.length 0 (k - l.length) [] (by omega) (by rw [List.length_nil]; omega)
  rw [show k - l.length + l.length + 1 = k + 1 by omega, List.nil_append, List.drop_zero] at this
  rw [show ((0 : Nat) : Int) = 0 from rfl] at this
  rw [this, mapsheetslaw45_ReliefTurned.l0, if_neg (by omega)]
  generalize hL : l.map (fun v => wrap64 (-v)) = L
  have hLl : L.length = l.length := by rw [← hL, List.length_map]
  have hLb : hasBad L = false := by
    unfold hasBad
    rw [List.any_eq_false]
    intro v hv
    rw [← hL, List.mem_map] at hv
    obtain ⟨u, hu, rfl⟩ := hv
    have := List.any_eq_false.1 hb u hu
    unfold badV at this ⊢
    simp only [decide_eq_true_eq] at this ⊢
    rw [w64 (by omega)]; omega
  have h1 : chkS x y c r s L = 0 := chkS_of hf (by rw [hLl]; exact hn) hLb
  rw [relief_Shade_eq x y c r s l hl _ _ _ (by omega), Option.bind_some, relief_Shade_eq x y c r s L (by omega) _ _ _ (by omega), Option.bind_some]
  have e1 : shadeS x y c r s l a b = (shadeG (gradX l c a b) (gradY l c a b) s, 0) := by unfold shadeS; rw [if_pos h0, if_pos hi]
  have hh : ∀ p q : Int, (0 ≤ p ∧ p < c) → (0 ≤ q ∧ q < r) → hgt L c p q = -(hgt l c p q) := by
    intro p q hp hq
    have hr1 := hgt_range hf hn hb hp hq
    rw [← hL, hgt_map _ hn hp hq, w64 (by omega)]
  have e2 : shadeS x y c r s L a b = (shadeG (-(gradX l c a b)) (-(gradY l c a b)) s, 0) := by
    unfold shadeS; rw [if_pos h1, if_pos hi]
    have g1 : gradX L c a b = -(gradX l c a b) := by
      unfold gradX
      rw [hh a b (by omega) (by omega), hh (a + 1) b (by omega) (by omega), hh a (b + 1) (by omega) (by omega), hh (a + 1) (b + 1) (by omega) (by omega)]; omega
    have g2 : gradY L c a b = -(gradY l c a b) := by
      unfold gradY
      rw [hh a b (by omega) (by omega), hh (a + 1) b (by omega) (by omega), hh a (b + 1) (by omega) (by omega), hh (a + 1) (b + 1) (by omega) (by omega)]; omega
    rw [g1, g2]
  have hg := grad_range hf hn hb hi
  have hs := hf.2.2.2.2.1
  have r1 := shade_range hg.1 hg.2 hs
  have r2 := shade_range (gx := -(gradX l c a b)) (gy := -(gradY l c a b)) (by omega) (by omega) hs
  rw [e1, e2]
  dsimp only
  rw [if_pos rfl, if_pos rfl, w64 (by omega)]
  rcases shade_neg hg.1 hg.2 hs with h | h
  · rw [if_pos h, awake_eq _ (by omega), Option.bind_some]
  · rw [if_neg (by omega), if_pos h, awake_eq _ (by omega), Option.bind_some]
end Go.Proofs.Ytflpllnkjboidaa.Pure
