/- The library's functions whose contracts are given. -/
import Derived.Test.YtnanlipnhdifgaaG0
import Derived.Test.YtnanlipnhdifgaaM23
import Derived.Test.YtnanlipnhdifgaaShelf
namespace Go.Proofs.YtnanlipnhdifgaaM
open Go Go.RowKit
set_option linter.unusedSimpArgs false
abbrev F := FL table
theorem Read.callable {f : Nat} {fn : Fn} (h : Read Try.prog f fn) : callable Try.prog f := by
  obtain ⟨g, c, h1, h2, h3, _⟩ := h
  exact ⟨g, h1, h2, by rw [h3]; rfl⟩
def XMul64 : Contracts := fun f xs H R => f = 47 ∧ ∃ x y : Nat, x < 18446744073709551616 ∧ y < 18446744073709551616 ∧ xs = [.i .u64 x, .i .u64 y] ∧ R = fun v H' => v = .tu [.i .u64 ((x * y / 18446744073709551616 : Nat) : Int), .i .u64 ((x * y % 18446744073709551616 : Nat) : Int)] ∧ H' = H
theorem XMul64_ok {f : Nat} {xs : List V} {H : Hp} {R : V → Hp → Prop} (h : XMul64 f xs H R) : FnOK Try.prog f xs H R := by
  obtain ⟨rfl, x, y, hx, hy, rfl, rfl⟩ := h
  refine FnOK.lib (y := .tuple #[.int .u64 ((x * y / 18446744073709551616 : Nat) : Int), .int .u64 ((x * y % 18446744073709551616 : Nat) : Int)]) (Read.callable rd47) (fun w ok ρ => ?_) fun w ok ρ vs hl hr => ?_
  · refine .tu rfl fun t c z hc hz => ?_
    match t with
    | 0 => cases hc; cases hz; exact .i _ _
    | 1 => cases hc; cases hz; exact .i _ _
    | t + 2 => simp at hc
  · match vs, hl with
    | [a, b], _ =>
      have ha := (hr 0 _ a rfl rfl).int
      have hb := (hr 1 _ b rfl rfl).int
      subst ha
      subst hb
      exact Try.bits_Mul64 x y hx hy w
def XLZ64 : Contracts := fun f xs H R => f = 55 ∧ ∃ x : Int, 0 ≤ x ∧ x ≤ 18446744073709551615 ∧ xs = [.i .u64 x] ∧ R = fun v H' => v = .i .i64 (64 - (Lib.bitLen x.toNat : Int)) ∧ H' = H
theorem XLZ64_ok {f : Nat} {xs : List V} {H : Hp} {R : V → Hp → Prop} (h : XLZ64 f xs H R) : FnOK Try.prog f xs H R := by
  obtain ⟨rfl, x, hx, hy, rfl, rfl⟩ := h
  refine FnOK.lib (y := .int .i64 (64 - (Lib.bitLen x.toNat : Int))) (Read.callable rd55) (fun w ok ρ => .i _ _) fun w ok ρ vs hl hr => ?_
  match vs, hl with
  | [a], _ =>
    have ha := (hr 0 _ a rfl rfl).int
    subst ha
    exact Try.bits_LeadingZeros64 x w hx hy
def XS : Contracts := fun f xs H R =>
  XMul64 f xs H R ∨
  XLZ64 f xs H R ∨
  False
theorem XS_ok (f : Nat) (xs : List V) (H : Hp) (R : V → Hp → Prop) (h : XS f xs H R) : FnOK Try.prog f xs H R := by
  refine Or.elim h (fun h => XMul64_ok h) fun h => ?_
  refine Or.elim h (fun h => XLZ64_ok h) fun h => ?_
  exact h.elim
theorem Mul64_ok (x y : Nat) (hx : x < 18446744073709551616) (hy : y < 18446744073709551616) : Ret F XS 47 [.i .u64 x, .i .u64 y] (.tu [.i .u64 ((x * y / 18446744073709551616 : Nat) : Int), .i .u64 ((x * y % 18446744073709551616 : Nat) : Int)]) := by
  have h : XMul64 47 [.i .u64 x, .i .u64 y] [] _ := ⟨rfl, x, y, hx, hy, rfl, rfl⟩
  refine .ext _ (by first | exact Or.inl h | exact Or.inr (Or.inl h) | exact Or.inr (Or.inr (Or.inl h))) ?_
  rintro v H' ⟨rfl, rfl⟩
  exact ⟨rfl, rfl⟩
theorem LZ_ok (x : Int) (hx : 0 ≤ x) (hy : x ≤ 18446744073709551615) : Ret F XS 55 [.i .u64 x] (.i .i64 (64 - (Lib.bitLen x.toNat : Int))) := by
  have h : XLZ64 55 [.i .u64 x] [] _ := ⟨rfl, x, hx, hy, rfl, rfl⟩
  refine .ext _ (by first | exact Or.inl h | exact Or.inr (Or.inl h) | exact Or.inr (Or.inr (Or.inl h))) ?_
  rintro v H' ⟨rfl, rfl⟩
  exact ⟨rfl, rfl⟩
end Go.Proofs.YtnanlipnhdifgaaM
