/- Plain lemmas on the printed functions: numbers and lists alone, no program and no memory. -/
import Derived.Test.YtflpllnkjboidaaLibNum
import Derived.Test.YtflpllnkjboidaaPAllx11
import Derived.Test.YtflpllnkjboidaaPAllx12
namespace Go.Proofs.Ytflpllnkjboidaa.PAll
open Go.RowKit Go.Proofs.YtflpllnkjboidaaW.PrintWords Go.Proofs.YtflpllnkjboidaaW.PrintLast
set_option linter.unusedVariables false
/-! ### the reference's Floor, Ceil, Round tell the same -/
theorem ref01_size_eq {a : Int} (h : -9223372036854775808 ≤ a ∧ a ≤ 9223372036854775807) : mapsheetsref01_size.f a = some (a.natAbs : Int) := by
  unfold mapsheetsref01_size.f
  split
  · refine congrArg some ?_; simp only [u64w]; omega
  · refine congrArg some ?_; simp only [u64w]; omega
def minusOf (a b : Int) : Bool := decide ((a < 0 ∧ 0 < b) ∨ (0 < a ∧ b < 0))
theorem flr_abs (a b : Int) (hb : b ≠ 0) :
    (minusOf a b = false → flr a b = (a.natAbs / b.natAbs : Nat) ∧ (rst a b).natAbs = a.natAbs % b.natAbs) ∧
    (minusOf a b = true → a.natAbs % b.natAbs = 0 → flr a b = -(a.natAbs / b.natAbs : Nat) ∧ rst a b = 0) ∧
    (minusOf a b = true → a.natAbs % b.natAbs ≠ 0 → flr a b = -(a.natAbs / b.natAbs : Nat) - 1 ∧ (rst a b).natAbs = b.natAbs - a.natAbs % b.natAbs) := by
  have hd := Nat.mod_add_div a.natAbs b.natAbs
  have hm := Nat.mod_lt a.natAbs (show 0 < b.natAbs by omega)
  generalize hQ : a.natAbs / b.natAbs = Q at *
  generalize hR : a.natAbs % b.natAbs = R at *
  have hbq : ((b.natAbs * Q : Nat) : Int) = (Q : Int) * (b.natAbs : Int) := by rw [Int.natCast_mul, Int.mul_comm]
  have hd' : (R : Int) + (Q : Int) * (b.natAbs : Int) = (a.natAbs : Int) := by rw [← hbq]; omega
  have hp : 0 < b → (Q : Int) * (b.natAbs : Int) = Q * b := fun h => by rw [show (b.natAbs : Int) = b by omega]
  have hn : b < 0 → (Q : Int) * (b.natAbs : Int) = -(Q * b) := fun h => by rw [show (b.natAbs : Int) = -b by omega, Int.mul_neg]
  have hnq : (-(Q : Int)) * b = -((Q : Int) * b) := Int.neg_mul _ _
  have hnq1 : (-(Q : Int) - 1) * b = -((Q : Int) * b) - b := by rw [Int.sub_mul, Int.neg_mul]; omega
  unfold minusOf
  refine ⟨fun h => ?_, fun h h0 => ?_, fun h h0 => ?_⟩
  · simp only [decide_eq_false_iff_not] at h
    by_cases hb0 : 0 < b
    · have := hp hb0
      obtain ⟨e1, e2⟩ := flr_unique (a := a) (b := b) (q := Q) (r := R) hb (by omega) (by omega) (by omega)
      exact ⟨e1.symm, by omega⟩
    · have := hn (by omega)
      obtain ⟨e1, e2⟩ := flr_unique (a := a) (b := b) (q := Q) (r := -R) hb (by omega) (by omega) (by omega)
      exact ⟨e1.symm, by omega⟩
  · simp only [decide_eq_true_eq] at h
    rcases h with ⟨h1, h2⟩ | ⟨h1, h2⟩
    · have := hp h2
      obtain ⟨e1, e2⟩ := flr_unique (a := a) (b := b) (q := -Q) (r := 0) hb (by omega) (by omega) (by omega)
      exact ⟨e1.symm, e2.symm⟩
    · have := hn h2
      obtain ⟨e1, e2⟩ := flr_unique (a := a) (b := b) (q := -Q) (r := 0) hb (by omega) (by omega) (by omega)
      exact ⟨e1.symm, e2.symm⟩
  · simp only [decide_eq_true_eq] at h
    rcases h with ⟨h1, h2⟩ | ⟨h1, h2⟩
    · have := hp h2
      obtain ⟨e1, e2⟩ := flr_unique (a := a) (b := b) (q := -Q - 1) (r := b - R) hb (by omega) (by omega) (by omega)
      exact ⟨e1.symm, by omega⟩
    · have := hn h2
      obtain ⟨e1, e2⟩ := flr_unique (a := a) (b := b) (q := -Q - 1) (r := b + R) hb (by omega) (by omega) (by omega)
      exact ⟨e1.symm, by omega⟩
def signedS (m : Bool) (n : Int) : Int × Int := if n > 9223372036854775808 ∨ (n = 9223372036854775808 ∧ m = false) then (0, 15) else if m = true then (-n, 0) else (n, 0)
theorem signedS_true {n : Int} (h : n ≤ 9223372036854775808) : signedS true n = (-n, 0) := by
  unfold signedS; rw [if_neg (by rintro (h | h); omega; exact absurd h.2 (by decide)), if_pos rfl]
theorem signedS_false {n : Int} (h : n < 9223372036854775808) : signedS false n = (n, 0) := by
  unfold signedS; rw [if_neg (by rintro (h | h); omega; have := h.1; omega), if_neg (by decide)]
theorem signedS_over {n : Int} {m : Bool} (h : n > 9223372036854775808 ∨ (n = 9223372036854775808 ∧ m = false)) : signedS m n = (0, 15) := by
  unfold signedS; rw [if_pos h]
theorem ref01_signed_eq (m : Bool) {n : Int} (h : 0 ≤ n) (k : Nat) (hk : 1 ≤ k) : mapsheetsref01_signed.f k m n = some (signedS m n) := by
  obtain ⟨k, rfl⟩ : ∃ j, k = j + 1 := ⟨k - 1, by omega⟩
  have jt : ∀ m n, mapsheetsref01_signed.j0 (k + 1) m n true = some (0, 15) := fun m n => by simp [mapsheetsref01_signed.j0]
  have jf : ∀ m n, mapsheetsref01_signed.j0 (k + 1) m n false = if m = true then some (wrap64 (IntKind.u64.wrap (-n)), 0) else some (wrap64 n, 0) := fun m n => by simp [mapsheetsref01_signed.j0]
  have hneg : n ≤ 9223372036854775808 → wrap64 (IntKind.u64.wrap (-n)) = -n := fun hn => by unfold wrap64; simp only [u64w]; omega
  unfold mapsheetsref01_signed.f
  by_cases h1 : n > 9223372036854775808
  · rw [if_pos h1, jt, signedS_over (.inl h1)]
  · rw [if_neg h1]
    by_cases h2 : n = 9223372036854775808
    · rw [if_pos h2]
      cases m with
      | false => rw [show (!false) = true from rfl, jt, signedS_over (.inr ⟨h2, rfl⟩)]
      | true => rw [show (!true) = false from rfl, jf, if_pos rfl, signedS_true (by omega), hneg (by omega)]
    · rw [if_neg h2, jf]
      cases m with
      | true => rw [if_pos rfl, signedS_true (by omega), hneg (by omega)]
      | false => rw [if_neg (by simp), signedS_false (by omega), w64 (by omega)]
theorem ref01_parts_eq {a b : Int} (ha : -9223372036854775808 ≤ a ∧ a ≤ 9223372036854775807) (hb : -9223372036854775808 ≤ b ∧ b ≤ 9223372036854775807) (h0 : b ≠ 0) :
    mapsheetsref01_parts.f a b = some (((a.natAbs / b.natAbs : Nat) : Int), ((a.natAbs % b.natAbs : Nat) : Int), minusOf a b) := by
  have e1 : Int.tdiv (a.natAbs : Int) (b.natAbs : Int) = ((a.natAbs / b.natAbs : Nat) : Int) := by rw [Int.ofNat_tdiv]
  have e2 : Int.tmod (a.natAbs : Int) (b.natAbs : Int) = ((a.natAbs % b.natAbs : Nat) : Int) := by rw [Int.ofNat_tmod]
  have h1 : a.natAbs / b.natAbs ≤ a.natAbs := Nat.div_le_self _ _
  have e3 : IntKind.u64.wrap ((a.natAbs / b.natAbs : Nat) : Int) = ((a.natAbs / b.natAbs : Nat) : Int) := by rw [u64w]; generalize a.natAbs / b.natAbs = Q at *; omega
  unfold mapsheetsref01_parts.f minusOf
  simp only [ref01_size_eq ha, ref01_size_eq hb, Option.bind_some, e1, e2, e3]
  rw [if_neg (by omega)]
  by_cases hA : a < 0
  · rw [if_pos hA]
    by_cases hB : b > 0
    · rw [if_pos hB, decide_eq_true (.inl ⟨hA, hB⟩)]
    · rw [if_neg hB, if_neg (by omega), decide_eq_false (by omega)]
  · rw [if_neg hA]
    by_cases hB : a > 0
    · rw [if_pos hB]; congr 3; rw [decide_eq_decide]; omega
    · rw [if_neg hB, decide_eq_false (by omega)]
section
variable {a b : Int} (ha : -9223372036854775808 ≤ a ∧ a ≤ 9223372036854775807) (hb : -9223372036854775808 ≤ b ∧ b ≤ 9223372036854775807)
include ha hb
theorem abs_div_lt (h0 : b ≠ 0) : (a.natAbs / b.natAbs ≤ 9223372036854775808) ∧ (a.natAbs % b.natAbs ≠ 0 → a.natAbs / b.natAbs < 4611686018427387905) ∧ (minusOf a b = false → a.natAbs / b.natAbs = 9223372036854775808 → a = -9223372036854775808 ∧ b = -1) ∧ (a = -9223372036854775808 ∧ b = -1 → a.natAbs / b.natAbs = 9223372036854775808 ∧ minusOf a b = false) := by
  have hd := Nat.mod_add_div a.natAbs b.natAbs
  have hm := Nat.mod_lt a.natAbs (show 0 < b.natAbs by omega)
  have h1 : a.natAbs / b.natAbs ≤ a.natAbs := Nat.div_le_self _ _
  refine ⟨by omega, fun hr => ?_, fun hmn hq => ?_, ?_⟩
  · have : 2 * (a.natAbs / b.natAbs) ≤ b.natAbs * (a.natAbs / b.natAbs) := Nat.mul_le_mul_right _ (by omega)
    omega
  · have hA : a = -9223372036854775808 := by omega
    rw [hq] at hd
    have : b.natAbs = 1 := by omega
    refine ⟨hA, ?_⟩
    unfold minusOf at hmn
    simp only [decide_eq_false_iff_not] at hmn
    omega
  · rintro ⟨rfl, rfl⟩; decide
theorem ref01_Round_eq (k : Nat) (hk : 1 ≤ k) : mapsheetsref01_Round.f k a b = some (roundS a b) := by
  unfold mapsheetsref01_Round.f roundS
  by_cases h0 : b = 0
  · rw [if_pos h0, if_pos h0]
  · obtain ⟨f1, f2, f3⟩ := flr_abs a b h0
    obtain ⟨q1, q2, q3, q4⟩ := abs_div_lt ha hb h0
    have hlt := Nat.mod_lt a.natAbs (show 0 < b.natAbs by omega)
    rw [if_neg h0, ref01_parts_eq ha hb h0, Option.bind_some, if_neg h0, ref01_size_eq hb, Option.bind_some]
    dsimp only
    have hup : up a b ↔ (rst a b ≠ 0 ∧ (b.natAbs : Int) ≤ 2 * (rst a b).natAbs) := Iff.rfl
    generalize a.natAbs / b.natAbs = Q at *
    generalize hRR : a.natAbs % b.natAbs = R at *
    have e : IntKind.u64.wrap ((b.natAbs : Int) - (R : Int)) = (b.natAbs : Int) - R := by rw [u64w]; omega
    rw [e]
    cases hm : minusOf a b with
    | true =>
      have hx : ¬ (a = -9223372036854775808 ∧ b = -1) := fun h => by have := (q4 h).2; rw [hm] at this; cases this
      rw [if_neg hx]
      by_cases hr : R = 0
      · have hf := f2 hm hr
        rw [if_neg (by omega), if_neg (by omega), ref01_signed_eq _ (by omega) k hk, Option.bind_some, if_neg (show ¬ up a b from fun h => h.1 hf.2), hf.1]
        rw [signedS_true (by omega)]
      · have hf := f3 hm hr
        have hq := q2 hr
        by_cases hg : (R : Int) > (b.natAbs : Int) - R
        · rw [if_pos hg, show IntKind.u64.wrap ((Q : Int) + 1) = (Q : Int) + 1 by rw [u64w]; omega, ref01_signed_eq _ (by omega) k hk, Option.bind_some, if_neg (show ¬ up a b by rw [hup]; omega), hf.1]
          rw [signedS_true (by omega)]
          refine congrArg some (Prod.ext ?_ rfl); show -((Q : Int) + 1) = _; omega
        · have hs : signedS true (Q : Int) = (-(Q : Int), 0) := by
            rw [signedS_true (by omega)]
          rw [if_neg hg, if_pos (show up a b by rw [hup]; omega), hf.1, show -(Q : Int) - 1 + 1 = -(Q : Int) by omega]
          by_cases he : (R : Int) = (b.natAbs : Int) - R
          · rw [if_pos he, if_pos rfl, ref01_signed_eq _ (by omega) k hk, Option.bind_some, hs]
          · rw [if_neg he, ref01_signed_eq _ (by omega) k hk, Option.bind_some, hs]
    | false =>
      have hf := f1 hm
      by_cases hx : a = -9223372036854775808 ∧ b = -1
      · have hq := (q4 hx).1
        have hr : R = 0 := by
          rcases Nat.eq_zero_or_pos R with h | h
          · exact h
          · have := q2 (by omega); omega
        rw [if_pos hx, if_neg (by omega), if_neg (by omega), ref01_signed_eq _ (by omega) k hk, Option.bind_some]
        unfold signedS; rw [if_pos (.inr ⟨by omega, rfl⟩)]
      · rw [if_neg hx]
        have hs : signedS false (Q : Int) = ((Q : Int), 0) := by
          unfold signedS; rw [if_neg (by rintro (h | h); omega; exact hx (q3 hm (by have := h.1; omega))), if_neg (by decide)]
        by_cases hg : (b.natAbs : Int) ≤ 2 * (R : Int)
        · have hr : R ≠ 0 := by omega
          have hq := q2 hr
          have hs1 : signedS false ((Q : Int) + 1) = ((Q : Int) + 1, 0) := by
            unfold signedS; rw [if_neg (by rintro (h | h); omega; have := h.1; omega), if_neg (by decide)]
          rw [if_pos (show up a b by rw [hup]; omega), hf.1]
          have ew : IntKind.u64.wrap ((Q : Int) + 1) = (Q : Int) + 1 := by rw [u64w]; omega
          by_cases hgt : (R : Int) > (b.natAbs : Int) - R
          · rw [if_pos hgt, ew, ref01_signed_eq _ (by omega) k hk, Option.bind_some, hs1]
          · rw [if_neg hgt, if_pos (by omega), if_neg (by decide), ew, ref01_signed_eq _ (by omega) k hk, Option.bind_some, hs1]
        · rw [if_neg (by omega), if_neg (by omega), ref01_signed_eq _ (by omega) k hk, Option.bind_some, hs, if_neg (show ¬ up a b by rw [hup]; omega), hf.1]
end
end Go.Proofs.Ytflpllnkjboidaa.PAll
