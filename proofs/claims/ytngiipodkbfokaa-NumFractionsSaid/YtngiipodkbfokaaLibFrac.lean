/- Plain lemmas on the printed functions: numbers and lists alone, no program and no memory. -/
import Derived.Test.YtngiipodkbfokaaLibMuldiv
import Derived.Test.YtngiipodkbfokaaLibNum2
import Derived.Test.YtngiipodkbfokaaLibRef01
import Derived.Test.YtngiipodkbfokaaLibRef01gcd
import Derived.Test.YtngiipodkbfokaaPAllx17
import Derived.Test.YtngiipodkbfokaaPAllx3
import Derived.Test.YtngiipodkbfokaaPAllx6
import Derived.Test.YtngiipodkbfokaaPAllx8
namespace Go.Proofs.Ytngiipodkbfokaa.PAll
open Go.RowKit Go.Proofs.YtngiipodkbfokaaW.PrintWords Go.Proofs.YtngiipodkbfokaaW.PrintLast
set_option linter.unusedVariables false
/-! ### fractions -/
/-- A size under a sign is an int. -/
def fitN (s : Bool) (n : Nat) : Prop := if s = true then n ≤ 9223372036854775808 else n ≤ 9223372036854775807
instance (s : Bool) (n : Nat) : Decidable (fitN s n) := by unfold fitN; infer_instance
def sgnN (s : Bool) (n : Nat) : Int := if s = true then -(n : Int) else (n : Int)
def makeS (a b : Int) : Int × Int × Int :=
  if b = 0 then (0, 0, 21)
  else if fitN ((decide (a < 0)) != (decide (b < 0))) (a.natAbs / Nat.gcd a.natAbs b.natAbs) ∧ b.natAbs / Nat.gcd a.natAbs b.natAbs ≤ 9223372036854775807 then
    (sgnN ((decide (a < 0)) != (decide (b < 0))) (a.natAbs / Nat.gcd a.natAbs b.natAbs), ((b.natAbs / Nat.gcd a.natAbs b.natAbs : Nat) : Int), 0)
  else (0, 0, 15)
theorem fitN_true {n : Nat} : fitN true n ↔ n ≤ 9223372036854775808 := by unfold fitN; rw [if_pos rfl]
theorem fitN_false {n : Nat} : fitN false n ↔ n ≤ 9223372036854775807 := by unfold fitN; rw [if_neg (by decide)]
theorem sgnN_true {n : Nat} : sgnN true n = -(n : Int) := by unfold sgnN; rw [if_pos rfl]
theorem sgnN_false {n : Nat} : sgnN false n = (n : Int) := by unfold sgnN; rw [if_neg (by decide)]
theorem num_signed_fit (s : Bool) (n : Nat) (h : n ≤ 9223372036854775808) : ∃ v, num_signed.f s (n : Int) = some (v, decide (fitN s n)) ∧ (fitN s n → v = sgnN s n) := by
  cases s with
  | true =>
    rw [num_signed_true (by omega) (by omega), if_pos (by omega), decide_eq_true (fitN_true.2 h)]
    exact ⟨_, rfl, fun _ => sgnN_true.symm⟩
  | false =>
    rw [num_signed_false (by omega)]
    by_cases hn : n ≤ 9223372036854775807
    · rw [if_pos (by omega), decide_eq_true (fitN_false.2 hn)]
      exact ⟨_, rfl, fun _ => sgnN_false.symm⟩
    · rw [if_neg (by omega), decide_eq_false (fun h => hn (fitN_false.1 h))]
      exact ⟨_, rfl, fun h => absurd (fitN_false.1 h) hn⟩
theorem signedS_fit (s : Bool) (n : Nat) : signedS s (n : Int) = if fitN s n then (sgnN s n, 0) else (0, 15) := by
  cases s with
  | true =>
    by_cases hn : n ≤ 9223372036854775808
    · rw [if_pos (fitN_true.2 hn), signedS_true (by omega), sgnN_true]
    · rw [if_neg (fun h => hn (fitN_true.1 h)), signedS_over (.inl (by omega))]
  | false =>
    by_cases hn : n ≤ 9223372036854775807
    · rw [if_pos (fitN_false.2 hn), signedS_false (by omega), sgnN_false]
    · rw [if_neg (fun h => hn (fitN_false.1 h)), signedS_over (by by_cases he : (n : Int) = 9223372036854775808; exact .inr ⟨he, rfl⟩; exact .inl (by omega))]
theorem gcd_pos_of {a b : Int} (hb : b ≠ 0) : 0 < Nat.gcd a.natAbs b.natAbs := Nat.gcd_pos_of_pos_right _ (by omega)
theorem udiv {x g : Nat} (hx : x ≤ 9223372036854775808) : IntKind.u64.wrap (Int.tdiv (x : Int) (g : Int)) = ((x / g : Nat) : Int) := by
  have := Nat.div_le_self x g
  rw [← Int.ofNat_tdiv, u64w]; generalize x / g = D at *; omega
section
variable {a b : Int} (ha : -9223372036854775808 ≤ a ∧ a ≤ 9223372036854775807) (hb : -9223372036854775808 ≤ b ∧ b ≤ 9223372036854775807)
include ha hb
theorem num_Make_eq (k : Nat) (hk : 9223372036854775809 ≤ k) : num_Make.f k a b = some (makeS a b) := by
  unfold num_Make.f makeS
  by_cases h0 : b = 0
  · rw [if_pos h0, if_pos h0]
  · have hA := num_abs_nat ha
    have hB := num_abs_nat hb
    have hg := gcd_pos_of (a := a) h0
    rw [if_neg h0, if_neg h0, num_abs_eq ha, Option.bind_some, num_abs_eq hb, Option.bind_some, num_gcd_eq k _ _ (by omega), Option.bind_some, Option.bind_some, if_neg (by omega), udiv hA, udiv hB]
    have d1 := Nat.div_le_self a.natAbs (Nat.gcd a.natAbs b.natAbs)
    have d2 := Nat.div_le_self b.natAbs (Nat.gcd a.natAbs b.natAbs)
    generalize a.natAbs / Nat.gcd a.natAbs b.natAbs = x at *
    generalize b.natAbs / Nat.gcd a.natAbs b.natAbs = y at *
    generalize ((decide (a < 0)) != (decide (b < 0))) = s at *
    obtain ⟨v, e1, v1⟩ := num_signed_fit s x (by omega)
    obtain ⟨u, e2, u1⟩ := num_signed_fit false y (by omega)
    rw [e1, Option.bind_some, Option.bind_some, e2, Option.bind_some]
    have hy : fitN false y ↔ y ≤ 9223372036854775807 := fitN_false
    show (if decide (fitN s x) = true then (if decide (fitN false y) = true then some (v, u, (0 : Int)) else some (0, 0, 15)) else some (0, 0, 15)) = _
    by_cases f1 : fitN s x
    · by_cases f2 : y ≤ 9223372036854775807
      · rw [if_pos (decide_eq_true f1), if_pos (decide_eq_true (hy.2 f2)), if_pos (show fitN s x ∧ y ≤ 9223372036854775807 from ⟨f1, f2⟩), v1 f1, u1 (hy.2 f2), sgnN_false]
      · rw [if_pos (decide_eq_true f1), if_neg (show ¬ decide (fitN false y) = true by rw [decide_eq_true_eq]; exact fun h => f2 (hy.1 h)), if_neg (show ¬ (fitN s x ∧ y ≤ 9223372036854775807) from fun h => f2 h.2)]
    · rw [if_neg (show ¬ decide (fitN s x) = true by rw [decide_eq_true_eq]; exact f1), if_neg (show ¬ (fitN s x ∧ y ≤ 9223372036854775807) from fun h => f1 h.1)]
theorem ref01_Make_eq (k : Nat) (hk : 9223372036854775809 ≤ k) : mapsheetsref01_Make.f k a b = some (makeS a b) := by
  unfold mapsheetsref01_Make.f makeS
  by_cases h0 : b = 0
  · rw [if_pos h0, if_pos h0]
  · have hA := num_abs_nat ha
    have hB := num_abs_nat hb
    have hg := gcd_pos_of (a := a) h0
    rw [if_neg h0, if_neg h0, ref01_size_eq ha, Option.bind_some, ref01_size_eq hb, Option.bind_some, ref01_common_eq k _ _ (by omega), Option.bind_some]
    have hz : a = 0 → a.natAbs / Nat.gcd a.natAbs b.natAbs = 0 := by intro h; subst h; simp
    have d1 := Nat.div_le_self a.natAbs (Nat.gcd a.natAbs b.natAbs)
    have d2 := Nat.div_le_self b.natAbs (Nat.gcd a.natAbs b.natAbs)
    have u1 := udiv (g := Nat.gcd a.natAbs b.natAbs) hA
    have u2 := udiv (g := Nat.gcd a.natAbs b.natAbs) hB
    generalize a.natAbs / Nat.gcd a.natAbs b.natAbs = x at *
    generalize b.natAbs / Nat.gcd a.natAbs b.natAbs = y at *
    have hy : fitN false y ↔ y ≤ 9223372036854775807 := fitN_false
    have fin : ∀ s : Bool, ((mapsheetsref01_signed.f k s (x : Int)).bind fun bt307 => (((some (b.natAbs : Int)).bind fun t309 => ((mapsheetsref01_signed.f k false (y : Int)).bind fun bt310 => (if bt307.2 = 0 then (if bt310.2 = 0 then (some (bt307.1, bt310.1, (0 : Int))) else (some (0, 0, 15))) else (some (0, 0, 15)))))))
        = some (if fitN s x ∧ y ≤ 9223372036854775807 then (sgnN s x, (y : Int), 0) else (0, 0, 15)) := by
      intro s
      rw [ref01_signed_eq s (by omega) k (by omega), Option.bind_some, Option.bind_some, ref01_signed_eq false (by omega) k (by omega), Option.bind_some, signedS_fit, signedS_fit]
      by_cases f1 : fitN s x
      · by_cases f2 : y ≤ 9223372036854775807
        · rw [if_pos f1, if_pos (hy.2 f2), if_pos (show fitN s x ∧ y ≤ 9223372036854775807 from ⟨f1, f2⟩), sgnN_false]; rfl
        · rw [if_pos f1, if_neg (show ¬ fitN false y from fun h => f2 (hy.1 h)), if_neg (show ¬ (fitN s x ∧ y ≤ 9223372036854775807) from fun h => f2 h.2)]; rfl
      · rw [if_neg f1, if_neg (show ¬ (fitN s x ∧ y ≤ 9223372036854775807) from fun h => f1 h.1)]; rfl
    cases hs : ((decide (a < 0)) != (decide (b < 0))) with
    | true =>
      rw [if_pos rfl, Option.bind_some, if_neg (by omega), u1, u2, fin]
      by_cases hn : a = 0
      · have := hz hn
        subst this
        have e1 : (a != 0) = false := by subst hn; rfl
        rw [e1]
        rw [sgnN_true, sgnN_false]
        by_cases f2 : y ≤ 9223372036854775807
        · rw [if_pos ⟨fitN_false.2 (by omega), f2⟩, if_pos ⟨fitN_true.2 (by omega), f2⟩]; rfl
        · rw [if_neg (fun h => f2 h.2), if_neg (fun h => f2 h.2)]
      · rw [bne_iff_ne.2 hn]
    | false => rw [if_neg (by decide), Option.bind_some, if_neg (by omega), u1, u2, fin]
def validS (a b : Int) : Bool := decide (0 < b ∧ Nat.gcd a.natAbs b.natAbs = 1)
theorem num_valid_eq (k : Nat) (hk : 9223372036854775809 ≤ k) : num_valid.f k a b = some (validS a b) := by
  unfold num_valid.f validS
  by_cases h0 : b > 0
  · have hB := num_abs_nat hb
    rw [if_pos h0, num_abs_eq ha, Option.bind_some, num_abs_eq hb, Option.bind_some, num_gcd_eq k _ _ (by omega), Option.bind_some]
    congr 1
    by_cases h1 : Nat.gcd a.natAbs b.natAbs = 1
    · rw [decide_eq_true ⟨h0, h1⟩, h1]; rfl
    · rw [decide_eq_false (fun h => h1 h.2), beq_eq_false_iff_ne]; omega
  · rw [if_neg h0, decide_eq_false (fun h => h0 h.1)]
theorem ref01_Valid_eq (k : Nat) (hk : 9223372036854775809 ≤ k) : mapsheetsref01_Valid.f k a b = some (validS a b) := by
  unfold mapsheetsref01_Valid.f validS
  by_cases h0 : b > 0
  · have hB := num_abs_nat hb
    rw [if_pos h0, ref01_size_eq ha, Option.bind_some, ref01_size_eq hb, Option.bind_some, ref01_common_eq k _ _ (by omega), Option.bind_some]
    congr 1
    by_cases h1 : Nat.gcd a.natAbs b.natAbs = 1
    · rw [decide_eq_true ⟨h0, h1⟩, h1]; rfl
    · rw [decide_eq_false (fun h => h1 h.2), beq_eq_false_iff_ne]; omega
  · rw [if_neg h0, decide_eq_false (fun h => h0 h.1)]
end
theorem makeS_ok {a b : Int} (h : (makeS a b).2.2 = 0) : b ≠ 0 ∧ makeS a b = (sgnN ((decide (a < 0)) != (decide (b < 0))) (a.natAbs / Nat.gcd a.natAbs b.natAbs), ((b.natAbs / Nat.gcd a.natAbs b.natAbs : Nat) : Int), 0) := by
  unfold makeS at h ⊢
  by_cases h0 : b = 0
  · rw [if_pos h0] at h; exact absurd h (by decide)
  · rw [if_neg h0] at h ⊢
    split at h
    · rename_i hf; rw [if_pos hf]; exact ⟨h0, rfl⟩
    · exact absurd h (by decide)
theorem sgnN_abs (s : Bool) (n : Nat) : (sgnN s n).natAbs = n := by
  cases s
  · rw [sgnN_false]; omega
  · rw [sgnN_true]; omega
theorem makeS_valid {a b : Int} (h : (makeS a b).2.2 = 0) : validS (makeS a b).1 (makeS a b).2.1 = true := by
  obtain ⟨h0, e⟩ := makeS_ok h
  rw [e]
  have hg := gcd_pos_of (a := a) h0
  unfold validS
  refine decide_eq_true ⟨?_, ?_⟩
  · have : 0 < b.natAbs / Nat.gcd a.natAbs b.natAbs := Nat.div_pos (Nat.le_of_dvd (by omega) (Nat.gcd_dvd_right _ _)) hg
    show 0 < ((b.natAbs / Nat.gcd a.natAbs b.natAbs : Nat) : Int)
    generalize b.natAbs / Nat.gcd a.natAbs b.natAbs = D at *; omega
  · show Nat.gcd (sgnN _ _).natAbs _ = 1
    rw [sgnN_abs, Int.natAbs_natCast]
    exact Nat.coprime_div_gcd_div_gcd hg
end Go.Proofs.Ytngiipodkbfokaa.PAll
