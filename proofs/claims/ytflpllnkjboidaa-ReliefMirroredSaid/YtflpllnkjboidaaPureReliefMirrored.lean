/- The pure statement of the law ReliefMirrored: what is left of it when the program is taken out. -/
import Derived.Test.YtflpllnkjboidaaLibAwake45
import Derived.Test.YtflpllnkjboidaaLibGrid
import Derived.Test.YtflpllnkjboidaaLibRelief2
import Derived.Test.YtflpllnkjboidaaPAllx18
namespace Go.Proofs.Ytflpllnkjboidaa.Pure
open Go.RowKit Go.Proofs.Ytflpllnkjboidaa.PAll Go.Proofs.YtflpllnkjboidaaW.PrintWords Go.Proofs.YtflpllnkjboidaaW.PrintLast
/-- Where the height at (p, q) of a grid of c columns and r rows stands in the reflected one. -/
def mirI (c r p q : Int) : Int := (c - 1 - p) * r + r - 1 - q
theorem mirI_lt {c r p q : Int} (hp : 0 ≤ p ∧ p < c) (hq : 0 ≤ q ∧ q < r) : 0 ≤ mirI c r p q ∧ mirI c r p q < c * r ∧ 0 ≤ (c - 1 - p) * r ∧ (c - 1 - p) * r + r ≤ c * r := by
  unfold mirI
  have h1 : 0 ≤ (c - 1 - p) * r := Int.mul_nonneg (by omega) (by omega)
  have h2 : (c - 1 - p) * r ≤ (c - 1) * r := Int.mul_le_mul_of_nonneg_right (by omega) (by omega)
  have h3 : (c - 1) * r = c * r - r := by rw [Int.sub_mul, Int.one_mul]
  omega
theorem mirI_inj {c r p q p' q' : Int} (hq : 0 ≤ q ∧ q < r) (hq' : 0 ≤ q' ∧ q' < r) (h : mirI c r p q = mirI c r p' q') : p = p' ∧ q = q' := by
  unfold mirI at h
  have key : ∀ u v : Int, u * r + (r - 1 - q) = v * r + (r - 1 - q') → u = v := by
    intro u v e
    rcases Int.lt_trichotomy u v with g | g | g
    · have : (u + 1) * r ≤ v * r := Int.mul_le_mul_of_nonneg_right (by omega) (by omega)
      rw [Int.add_mul, Int.one_mul] at this; omega
    · exact g
    · have : (v + 1) * r ≤ u * r := Int.mul_le_mul_of_nonneg_right (by omega) (by omega)
      rw [Int.add_mul, Int.one_mul] at this; omega
  have e := key (c - 1 - p) (c - 1 - p') (by omega)
  have : p = p' := by omega
  subst this
  exact ⟨rfl, by omega⟩
theorem rd_set_same (M : List Int) {i : Int} (h0 : 0 ≤ i) (h1 : i < M.length) (v : Int) : rd (M.set i.toNat v) i = v := by
  obtain ⟨n, rfl⟩ : ∃ n : Nat, i = n := ⟨i.toNat, by omega⟩
  have hn : n < M.length := by omega
  rw [Int.toNat_natCast, rd_get _ n (by rw [List.length_set]; exact hn), List.getElem_set_self]
theorem rd_set_ne (M : List Int) {i j : Int} (h0 : 0 ≤ i) (h1 : 0 ≤ j ∧ j < M.length) (hne : i ≠ j) (v : Int) : rd (M.set i.toNat v) j = rd M j := by
  obtain ⟨n, rfl⟩ : ∃ n : Nat, i = n := ⟨i.toNat, by omega⟩
  obtain ⟨m, rfl⟩ : ∃ m : Nat, j = m := ⟨j.toNat, by omega⟩
  have hm : m < M.length := by omega
  rw [Int.toNat_natCast, rd_get _ m (by rw [List.length_set]; exact hm), rd_get M m hm, List.getElem_set_ne (by omega)]
/-- What stands where, till the row q and the column p. -/
def done (l M : List Int) (c r : Int) (p q : Int) : Prop := (M.length : Int) = c * r ∧ ∀ p' q' : Int, (0 ≤ p' ∧ p' < c) → (0 ≤ q' ∧ q' < r) → (q' < q ∨ (q' = q ∧ p' < p)) → rd M (mirI c r p' q') = hgt l c p' q'
theorem mir_row {x y c r s a b : Int} {l : List Int} (hf : fits x y c r s) (hn : (l.length : Int) = c * r) (X Y S : Int) (q : Nat) (hq : (q : Int) < r) : ∀ (m p k : Nat) (M : List Int), (p : Int) + m = c → done l M c r (p : Int) (q : Int) →
    ∃ M', mapsheetslaw45_ReliefMirrored.l1 (k + m + 1) a b (q : Int) (p : Int) x y c r s l X Y r c S M = mapsheetslaw45_ReliefMirrored.l0 k a b ((q + 1 : Nat) : Int) x y c r s l X Y r c S M' ∧ done l M' c r 0 ((q + 1 : Nat) : Int)
  | 0, p, k, M, hp, hd => by
    have hr := hf.2.2.2.1
    refine ⟨M, ?_, hd.1, fun p' q' h1 h2 h3 => hd.2 p' q' h1 h2 (by omega)⟩
    rw [Nat.add_zero, mapsheetslaw45_ReliefMirrored.l1, if_neg (by omega), show wrap64 ((q : Int) + 1) = ((q + 1 : Nat) : Int) by rw [w64 (by omega)]; omega]
  | m + 1, p, k, M, hp, hd => by
    have hc := hf.2.2.1
    have hr := hf.2.2.2.1
    have ar := area_le hc hr
    have q1 := cell_lt (c := c) (r := r) (a := (p : Int)) (b := (q : Int)) (by omega) (by omega)
    have q2 := mirI_lt (c := c) (r := r) (p := (p : Int)) (q := (q : Int)) (by omega) (by omega)
    have e1 : wrap64 (wrap64 ((q : Int) * c) + (p : Int)) = (q : Int) * c + p := by rw [w64 (x := (q : Int) * c) (by omega), w64 (by omega)]
    have e2 : wrap64 (wrap64 (wrap64 (wrap64 (wrap64 (wrap64 (c - 1) - (p : Int)) * r) + r) - 1) - (q : Int)) = mirI c r p q := by
      rw [w64 (x := c - 1) (by omega), w64 (x := c - 1 - (p : Int)) (by omega), w64 (x := (c - 1 - (p : Int)) * r) (by omega), w64 (x := (c - 1 - (p : Int)) * r + r) (by omega), w64 (x := (c - 1 - (p : Int)) * r + r - 1) (by omega), w64 (by omega)]; rfl
    have hM := hd.1
    rw [show k + (m + 1) + 1 = (k + m + 1) + 1 by omega, mapsheetslaw45_ReliefMirrored.l1, if_pos (by omega), e1, e2, if_pos (by omega), if_pos (by omega), if_pos (by omega), if_pos (by omega), show wrap64 ((p : Int) + 1) = ((p + 1 : Nat) : Int) by rw [w64 (by omega)]; omega]
    refine mir_row hf hn X Y S q hq m (p + 1) k _ (by omega) ⟨by rw [List.length_set]; exact hM, fun p' q' h1 h2 h3 => ?_⟩
    by_cases hs : p' = p ∧ q' = q
    · obtain ⟨rfl, rfl⟩ := hs
      rw [rd_set_same M (by omega) (by omega)]; rfl
    · have q3 := mirI_lt (c := c) (r := r) (p := p') (q := q') h1 h2
      rw [rd_set_ne M (by omega) (by omega) (fun h => hs (by have := mirI_inj (by omega) h2 h; exact ⟨this.1.symm, this.2.symm⟩))]
      exact hd.2 p' q' h1 h2 (by omega)
theorem mir_rows {x y c r s a b : Int} {l : List Int} (hf : fits x y c r s) (hn : (l.length : Int) = c * r) (X Y S : Int) : ∀ (m q k : Nat) (M : List Int), (q : Int) + m = r → done l M c r 0 (q : Int) →
    ∃ M', mapsheetslaw45_ReliefMirrored.l0 (k + m * (c.toNat + 2) + 1) a b (q : Int) x y c r s l X Y r c S M = mapsheetslaw45_ReliefMirrored.l0 (k + 1) a b r x y c r s l X Y r c S M' ∧ done l M' c r 0 r
  | 0, q, k, M, hq, hd => by
    have : (q : Int) = r := by omega
    rw [this] at hd ⊢
    exact ⟨M, by rw [Nat.zero_mul, Nat.add_zero], hd⟩
  | m + 1, q, k, M, hq, hd => by
    have hc := hf.2.2.1
    have e : (m + 1) * (c.toNat + 2) = m * (c.toNat + 2) + c.toNat + 2 := by rw [Nat.add_mul, Nat.one_mul]; omega
    obtain ⟨M', h1, h2⟩ := mir_row (a := a) (b := b) hf hn X Y S q (by omega) c.toNat 0 (k + m * (c.toNat + 2) + 1) M (by omega) hd
    obtain ⟨M'', h3, h4⟩ := mir_rows (a := a) (b := b) hf hn X Y S m (q + 1) k M' (by omega) h2
    refine ⟨M'', ?_, h4⟩
    rw [e, mapsheetslaw45_ReliefMirrored.l0, if_pos (by omega)]
    rw [show k + m * (c.toNat + 2) + 1 + c.toNat + 1 = k + (m * (c.toNat + 2) + c.toNat + 2) by omega] at h1
    rw [show ((0 : Nat) : Int) = 0 from rfl] at h1
    rw [h1, h3]
theorem ReliefMirrored : mapsheetslaw45_ReliefMirrored.Pure := by
  intro x y c r s l a b w1 w2 w3 w4 w5 w6 w7 w8 w9
  have wa := i64wf w8
  have wb := i64wf w9
  suffices h : ∀ k, 200000 ≤ k → mapsheetslaw45_ReliefMirrored.f k x y c r s l a b = some true from ⟨200000, h _ (Nat.le_refl _)⟩
  intro k hk
  obtain ⟨k, rfl⟩ : ∃ j, k = j + 2 := ⟨k - 2, by omega⟩
  have j0t : ∀ x y c r s l, mapsheetslaw45_ReliefMirrored.j0 (k + 2) a b true x y c r s l = some true := by
    intro x y c r s l
    simp only [mapsheetslaw45_ReliefMirrored.j0]
    rw [if_pos trivial, awake_eq _ (by omega), Option.bind_some]
  unfold mapsheetslaw45_ReliefMirrored.f
  rw [fair_eq, Option.bind_some]
  by_cases hl' : (l.length : Int) ≤ 4200
  case neg => rw [if_neg (by rw [decide_eq_true_eq]; exact hl'), j0t]
  have hl : l.length ≤ 4200 := by omega
  rw [if_pos (decide_eq_true hl'), ref43_Check_eq x y c r s l hl _ (by omega), Option.bind_some]
  by_cases h0 : chkS x y c r s l = 0
  case neg => rw [if_neg h0, j0t]
  obtain ⟨hf, hn, hb⟩ := chkS_zero h0
  have hc := hf.2.2.1
  have hr := hf.2.2.2.1
  rw [if_pos h0, w64 (x := c - 1) (by omega), w64 (x := r - 1) (by omega)]
  by_cases c1 : a < 0
  · rw [if_pos c1, j0t]
  rw [if_neg c1]
  by_cases c2 : b < 0
  · rw [if_pos c2, j0t]
  rw [if_neg c2]
  by_cases c3 : a ≥ c - 1
  · rw [if_pos c3, j0t]
  rw [if_neg c3]
  by_cases c4 : b ≥ r - 1
  · rw [decide_eq_true c4, j0t]
  rw [decide_eq_false c4]
  have hi : insideC c r a b := by unfold insideC; omega
  simp only [mapsheetslaw45_ReliefMirrored.j0]
  rw [if_neg (by decide), if_pos (by omega), if_pos (by omega)]
  have hsz : r.toNat * (c.toNat + 2) ≤ 4224 := Nat.mul_le_mul (show r.toNat ≤ 64 by omega) (show c.toNat + 2 ≤ 66 by omega)
  obtain ⟨M, h1, hd⟩ := mir_rows (a := a) (b := b) hf hn 0 0 s r.toNat 0 (k - r.toNat * (c.toNat + 2)) (List.replicate ((l.length : Int)).toNat 0) (by omega) ⟨by rw [List.length_replicate]; omega, fun p' q' _ g _ => by omega⟩
  rw [show k - r.toNat * (c.toNat + 2) + r.toNat * (c.toNat + 2) + 1 = k + 1 by omega] at h1
  rw [show ((0 : Nat) : Int) = 0 from rfl] at h1
  rw [h1]
  have hML : M.length = l.length := by have := hd.1; omega
  obtain ⟨j, hj⟩ : ∃ j, k - r.toNat * (c.toNat + 2) = j := ⟨_, rfl⟩
  rw [hj, mapsheetslaw45_ReliefMirrored.l0, if_neg (by omega), ref43_Check_eq 0 0 r c s M (by omega) _ (by omega), Option.bind_some]
  by_cases h2 : chkS 0 0 r c s M = 0
  case neg => rw [if_neg h2, awake_eq _ (by omega), Option.bind_some]
  rw [if_pos h2, relief_Shade_eq x y c r s l hl _ _ _ (by omega), Option.bind_some, relief_Shade_eq 0 0 r c s M (by omega) _ _ _ (by omega), Option.bind_some]
  rw [w64 (x := r - 2) (by omega), w64 (x := c - 2) (by omega), w64 (x := r - 2 - b) (by omega), w64 (x := c - 2 - a) (by omega)]
  have e1 : shadeS x y c r s l a b = (shadeG (gradX l c a b) (gradY l c a b) s, 0) := by unfold shadeS; rw [if_pos h0, if_pos hi]
  have hh : ∀ p q u v : Int, (0 ≤ p ∧ p < c) → (0 ≤ q ∧ q < r) → u = r - 1 - q → v = c - 1 - p → hgt M r u v = hgt l c p q := by
    intro p q u v hp hq hu hv
    have := hd.2 p q hp hq (by omega)
    rw [← this]
    unfold hgt mirI
    rw [hu, hv]; congr 1; omega
  have hi2 : insideC r c (r - 2 - b) (c - 2 - a) := by unfold insideC; omega
  have e2 : shadeS 0 0 r c s M (r - 2 - b) (c - 2 - a) = (shadeG (gradX l c a b) (gradY l c a b) s, 0) := by
    unfold shadeS; rw [if_pos h2, if_pos hi2]
    have x00 := hh (a + 1) (b + 1) (r - 2 - b) (c - 2 - a) (by omega) (by omega) (by omega) (by omega)
    have x10 := hh (a + 1) b (r - 2 - b + 1) (c - 2 - a) (by omega) (by omega) (by omega) (by omega)
    have x01 := hh a (b + 1) (r - 2 - b) (c - 2 - a + 1) (by omega) (by omega) (by omega) (by omega)
    have x11 := hh a b (r - 2 - b + 1) (c - 2 - a + 1) (by omega) (by omega) (by omega) (by omega)
    have g1 : gradX M r (r - 2 - b) (c - 2 - a) = -(gradY l c a b) := by unfold gradX gradY; rw [x00, x10, x01, x11]; omega
    have g2 : gradY M r (r - 2 - b) (c - 2 - a) = -(gradX l c a b) := by unfold gradX gradY; rw [x00, x10, x01, x11]; omega
    rw [g1, g2, shade_mirror]
  rw [e1, e2]
  dsimp only
  rw [if_pos rfl, if_pos rfl, if_pos rfl, awake_eq _ (by omega), Option.bind_some]
end Go.Proofs.Ytflpllnkjboidaa.Pure
