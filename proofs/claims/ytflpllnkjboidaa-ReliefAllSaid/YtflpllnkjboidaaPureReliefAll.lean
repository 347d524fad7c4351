/- The pure statement of the law ReliefAll: what is left of it when the program is taken out. -/
import Derived.Test.YtflpllnkjboidaaLibAwake45
import Derived.Test.YtflpllnkjboidaaLibGrid
import Derived.Test.YtflpllnkjboidaaLibRelief2
import Derived.Test.YtflpllnkjboidaaLibRelief3
import Derived.Test.YtflpllnkjboidaaLibRelief4
import Derived.Test.YtflpllnkjboidaaPAllx15
namespace Go.Proofs.Ytflpllnkjboidaa.Pure
open Go.RowKit Go.Proofs.Ytflpllnkjboidaa.PAll Go.Proofs.YtflpllnkjboidaaW.PrintWords Go.Proofs.YtflpllnkjboidaaW.PrintLast
theorem all_loop (c r : Int) (L : List Int) (hL : L.length ≤ 3969) (hv : ∀ v ∈ L, 0 ≤ v ∧ v ≤ 100) : ∀ (m i k : Nat), i + m = L.length → m + 101 ≤ k → mapsheetslaw45_ReliefAll.l0 k (i : Int) c r L = some true
  | 0, i, k, hi, hk => by
    obtain ⟨k, rfl⟩ : ∃ j, k = j + 1 := ⟨k - 1, by omega⟩
    rw [mapsheetslaw45_ReliefAll.l0, if_neg (by omega), awake_eq k (by omega), Option.bind_some]
  | m + 1, i, k, hi, hk => by
    obtain ⟨k, rfl⟩ : ∃ j, k = j + 1 := ⟨k - 1, by omega⟩
    have hlt : i < L.length := by omega
    have hr := hv L[i] (List.getElem_mem hlt)
    rw [mapsheetslaw45_ReliefAll.l0, if_pos (by omega), if_pos (by omega), rd_get L i hlt, if_neg (by omega), if_neg (by omega), show wrap64 ((i : Int) + 1) = ((i + 1 : Nat) : Int) by rw [w64 (by omega)]; omega]
    exact all_loop c r L hL hv m (i + 1) k (by omega) (by omega)
theorem ReliefAll : mapsheetslaw45_ReliefAll.Pure := by
  intro x y c r s l w1 w2 w3 w4 w5 w6 w7
  suffices h : ∀ k, 200000 ≤ k → mapsheetslaw45_ReliefAll.f k x y c r s l = some true from ⟨200000, h _ (Nat.le_refl _)⟩
  intro k hk
  obtain ⟨k, rfl⟩ : ∃ j, k = j + 1 := ⟨k - 1, by omega⟩
  unfold mapsheetslaw45_ReliefAll.f
  rw [fair_eq, Option.bind_some]
  by_cases hl : (l.length : Int) ≤ 4200
  · have hlen := allS_len x y c r s l
    have hran := allS_range x y c r s l
    rw [if_pos (decide_eq_true hl), relief_All_eq x y c r s l (by omega) _ (by omega), Option.bind_some, ref45_All_eq x y c r s l (by omega) _ (by omega), Option.bind_some, if_pos rfl]
    generalize allS x y c r s l = A at *
    obtain ⟨ac, ar, al, ae⟩ := A
    dsimp only at *
    rw [same_eq ac ar al (by omega) _ (by omega), Option.bind_some]
    simp only [mapsheetslaw45_ReliefAll.j0]
    rw [if_neg (by decide)]
    exact all_loop ac ar al (by omega) hran al.length 0 k (by omega) (by omega)
  · rw [if_neg (by rw [decide_eq_true_eq]; exact hl), awake_eq _ (by omega), Option.bind_some]
end Go.Proofs.Ytflpllnkjboidaa.Pure
