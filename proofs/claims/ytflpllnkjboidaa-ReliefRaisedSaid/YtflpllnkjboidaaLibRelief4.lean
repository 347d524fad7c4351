/- Plain lemmas on the printed functions: numbers and lists alone, no program and no memory. -/
import Derived.Test.YtflpllnkjboidaaLibRelief3
namespace Go.Proofs.Ytflpllnkjboidaa.PAll
open Go.RowKit Go.Proofs.YtflpllnkjboidaaW.PrintWords Go.Proofs.YtflpllnkjboidaaW.PrintLast
set_option linter.unusedVariables false
theorem allS_len (x y c r s : Int) (l : List Int) : (allS x y c r s l).2.2.1.length ≤ 3969 := by
  unfold allS
  by_cases h0 : chkS x y c r s l = 0
  · rw [if_pos h0]
    obtain ⟨hf, hn, hb⟩ := chkS_zero h0
    have hc := hf.2.2.1
    have hr := hf.2.2.2.1
    dsimp only
    rw [allL_len]
    exact (cells_le (C := (c - 1).toNat) (R := (r - 1).toNat) (by omega) (by omega)).1
  · rw [if_neg h0]; exact Nat.zero_le _
theorem shF_range {x y c r s : Int} {l : List Int} (h0 : chkS x y c r s l = 0) {a b : Int} (hi : insideC c r a b) : 0 ≤ shF l c s a b ∧ shF l c s a b ≤ 100 := by
  obtain ⟨hf, hn, hb⟩ := chkS_zero h0
  have hg := grad_range hf hn hb hi
  exact shade_range hg.1 hg.2 hf.2.2.2.2.1
theorem allS_range (x y c r s : Int) (l : List Int) : ∀ v ∈ (allS x y c r s l).2.2.1, 0 ≤ v ∧ v ≤ 100 := by
  unfold allS
  by_cases h0 : chkS x y c r s l = 0
  · rw [if_pos h0]
    obtain ⟨hf, hn, hb⟩ := chkS_zero h0
    have hc := hf.2.2.1
    have hr := hf.2.2.2.1
    exact allL_all (P := fun v => 0 ≤ v ∧ v ≤ 100) _ _ (fun i j h1 h2 h3 => shF_range h0 (by unfold insideC; omega))
  · rw [if_neg h0]; intro v hv; exact absurd hv (by simp)
end Go.Proofs.Ytflpllnkjboidaa.PAll
