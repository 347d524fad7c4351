/- The library's functions whose contracts are given. -/
import Derived.Test.YtgamkmgdbfeigaaG1
import Derived.Test.YtgamkmgdbfeigaaM25
import Derived.Test.YtgamkmgdbfeigaaShelf
namespace Go.Proofs.YtgamkmgdbfeigaaM
open Go Go.RowKit
set_option linter.unusedSimpArgs false
abbrev F := FL table
theorem Read.callable {f : Nat} {fn : Fn} (h : Read Try.prog f fn) : callable Try.prog f := by
  obtain ⟨g, c, h1, h2, h3, _⟩ := h
  exact ⟨g, h1, h2, by rw [h3]; rfl⟩
def XMul64 : Contracts := fun f xs H R => f = 80 ∧ ∃ x y : Nat, x < 18446744073709551616 ∧ y < 18446744073709551616 ∧ xs = [.i .u64 x, .i .u64 y] ∧ R = fun v H' => v = .tu [.i .u64 ((x * y / 18446744073709551616 : Nat) : Int), .i .u64 ((x * y % 18446744073709551616 : Nat) : Int)] ∧ H' = H
theorem XMul64_ok {f : Nat} {xs : List V} {H : Hp} {R : V → Hp → Prop} (h : XMul64 f xs H R) : FnOK Try.prog f xs H R := by
  obtain ⟨rfl, x, y, hx, hy, rfl, rfl⟩ := h
  refine FnOK.lib (y := .tuple #[.int .u64 ((x * y / 18446744073709551616 : Nat) : Int), .int .u64 ((x * y % 18446744073709551616 : Nat) : Int)]) (Read.callable rd80) (fun w ok ρ => ?_) fun w ok ρ vs hl hr => ?_
  · refine .tu rfl fun t c z hc hz => ?_
    match t with
    | 0 => cases hc; cases hz; exact .i _ _
    | 1 => cases hc; cases hz; exact .i _ _
    | t + 2 => simp at hc
  · match vs, hl with
    | [a, b], _ =>
      have ha := (hr 0 _ a rfl rfl).int
      have hb := (hr 1 _ b rfl rfl).int
      subst ha
      subst hb
      exact Try.bits_Mul64 x y hx hy w
def XLZ64 : Contracts := fun f xs H R => f = 85 ∧ ∃ x : Int, 0 ≤ x ∧ x ≤ 18446744073709551615 ∧ xs = [.i .u64 x] ∧ R = fun v H' => v = .i .i64 (64 - (Lib.bitLen x.toNat : Int)) ∧ H' = H
theorem XLZ64_ok {f : Nat} {xs : List V} {H : Hp} {R : V → Hp → Prop} (h : XLZ64 f xs H R) : FnOK Try.prog f xs H R := by
  obtain ⟨rfl, x, hx, hy, rfl, rfl⟩ := h
  refine FnOK.lib (y := .int .i64 (64 - (Lib.bitLen x.toNat : Int))) (Read.callable rd85) (fun w ok ρ => .i _ _) fun w ok ρ vs hl hr => ?_
  match vs, hl with
  | [a], _ =>
    have ha := (hr 0 _ a rfl rfl).int
    subst ha
    exact Try.bits_LeadingZeros64 x w hx hy
def XS : Contracts := fun f xs H R =>
  XMul64 f xs H R ∨
  XLZ64 f xs H R ∨
  False
theorem XS_ok (f : Nat) (xs : List V) (H : Hp) (R : V → Hp → Prop) (h : XS f xs H R) : FnOK Try.prog f xs H R := by
  refine Or.elim h (fun h => XMul64_ok h) fun h => ?_
  refine Or.elim h (fun h => XLZ64_ok h) fun h => ?_
  exact h.elim
theorem Mul64_ok (x y : Nat) (hx : x < 18446744073709551616) (hy : y < 18446744073709551616) : Ret F XS 80 [.i .u64 x, .i .u64 y] (.tu [.i .u64 ((x * y / 18446744073709551616 : Nat) : Int), .i .u64 ((x * y % 18446744073709551616 : Nat) : Int)]) := by
  have h : XMul64 80 [.i .u64 x, .i .u64 y] [] _ := ⟨rfl, x, y, hx, hy, rfl, rfl⟩
  refine .ext _ (by first | exact Or.inl h | exact Or.inr (Or.inl h) | exact Or.inr (Or.inr (Or.inl h))) ?_
  rintro v H' ⟨rfl, rfl⟩
  exact ⟨rfl, rfl⟩
theorem LZ_ok (x : Int) (hx : 0 ≤ x) (hy : x ≤ 18446744073709551615) : Ret F XS 85 [.i .u64 x] (.i .i64 (64 - (Lib.bitLen x.toNat : Int))) := by
  have h : XLZ64 85 [.i .u64 x] [] _ := ⟨rfl, x, hx, hy, rfl, rfl⟩
  refine .ext _ (by first | exact Or.inl h | exact Or.inr (Or.inl h) | exact Or.inr (Or.inr (Or.inl h))) ?_
  rintro v H' ⟨rfl, rfl⟩
  exact ⟨rfl, rfl⟩
theorem XS_Mul64 {xs : List V} {H : Hp} {R : V → Hp → Prop} (h : XMul64 80 xs H R) : XS 80 xs H R := by first | exact Or.inl h | exact Or.inr (Or.inl h) | exact Or.inr (Or.inr (Or.inl h))
theorem XS_LZ64 {xs : List V} {H : Hp} {R : V → Hp → Prop} (h : XLZ64 85 xs H R) : XS 85 xs H R := by first | exact Or.inl h | exact Or.inr (Or.inl h) | exact Or.inr (Or.inr (Or.inl h))
theorem XMul64_det {f : Nat} {xs : List V} {H : Hp} {R0 : V → Hp → Prop} (h : XMul64 f xs H R0) : ∃ v H', R0 v H' ∧ ∀ r H1, R0 r H1 → r = v ∧ H1 = H' := by
  obtain ⟨rfl, x, y, hx, hy, rfl, rfl⟩ := h
  exact ⟨_, _, ⟨rfl, rfl⟩, fun r H1 h => h⟩
theorem XLZ64_det {f : Nat} {xs : List V} {H : Hp} {R0 : V → Hp → Prop} (h : XLZ64 f xs H R0) : ∃ v H', R0 v H' ∧ ∀ r H1, R0 r H1 → r = v ∧ H1 = H' := by
  obtain ⟨rfl, x, hx, hy, rfl, rfl⟩ := h
  exact ⟨_, _, ⟨rfl, rfl⟩, fun r H1 h => h⟩
theorem XS_det : DetX XS := by
  intro f xs H R0 h
  refine Or.elim h (fun h => XMul64_det h) fun h => ?_
  refine Or.elim h (fun h => XLZ64_det h) fun h => ?_
  exact h.elim
/-- The library's functions, worked out. -/
def eMul64 : List V → Option V
  | [.i .u64 (.ofNat x), .i .u64 (.ofNat y)] => bif Nat.blt x 18446744073709551616 && Nat.blt y 18446744073709551616 then some (.tu [.i .u64 ((x * y / 18446744073709551616 : Nat) : Int), .i .u64 ((x * y % 18446744073709551616 : Nat) : Int)]) else none
  | _ => none
def eLZ64 : List V → Option V
  | [.i .u64 (.ofNat x)] => bif Nat.blt x 18446744073709551616 then some (.i .i64 (64 - (Lib.bitLen x : Int))) else none
  | _ => none
theorem eMul64_ok {xs : List V} {H : Hp} {v : V} (h : eMul64 xs = some v) : J F XS (.fn 80 xs H fun r H1 => r = v ∧ H1 = H) := by
  unfold eMul64 at h
  split at h
  · rename_i x y
    obtain ⟨h0, h⟩ := condS h
    rw [Bool.and_eq_true, Nat.blt_eq, Nat.blt_eq] at h0
    have hX : XMul64 80 [.i .u64 (x : Int), .i .u64 (y : Int)] H _ := ⟨rfl, x, y, h0.1, h0.2, rfl, rfl⟩
    refine .ext _ (XS_Mul64 hX) ?_
    rintro r H1 ⟨h1, h2⟩
    cases h
    exact ⟨h1, h2⟩
  · cases h
theorem eLZ64_ok {xs : List V} {H : Hp} {v : V} (h : eLZ64 xs = some v) : J F XS (.fn 85 xs H fun r H1 => r = v ∧ H1 = H) := by
  unfold eLZ64 at h
  split at h
  · rename_i x
    obtain ⟨h0, h⟩ := condS h
    rw [Nat.blt_eq] at h0
    have hX : XLZ64 85 [.i .u64 (x : Int)] H _ := ⟨rfl, (x : Int), by omega, by omega, rfl, rfl⟩
    refine .ext _ (XS_LZ64 hX) ?_
    rintro r H1 ⟨h1, h2⟩
    cases h
    rw [Int.toNat_natCast] at h1
    exact ⟨h1, h2⟩
  · cases h
def XEv : Cal := fun f xs H =>
  bif Nat.beq f 80 then (eMul64 xs).map fun v => (v, H) else
  bif Nat.beq f 85 then (eLZ64 xs).map fun v => (v, H) else
  none
theorem XEv_ok : CalOk F XS XEv := by
  intro f xs H v H' h
  unfold XEv at h
  cases h0 : Nat.beq f 80
  case true => rw [h0, cond_true, Option.map_eq_some_iff] at h; obtain ⟨v1, h1, h2⟩ := h; cases h2; rw [Nat.eq_of_beq_eq_true h0]; exact eMul64_ok h1
  rw [h0, cond_false] at h
  clear h0
  cases h0 : Nat.beq f 85
  case true => rw [h0, cond_true, Option.map_eq_some_iff] at h; obtain ⟨v1, h1, h2⟩ := h; cases h2; rw [Nat.eq_of_beq_eq_true h0]; exact eLZ64_ok h1
  rw [h0, cond_false] at h
  cases h
end Go.Proofs.YtgamkmgdbfeigaaM
