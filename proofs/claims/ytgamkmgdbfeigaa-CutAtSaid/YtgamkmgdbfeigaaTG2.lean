/- The distance of a point from a segment, on the machine. -/
import Derived.Test.YtgamkmgdbfeigaaPG1
namespace Go.Proofs.YtgamkmgdbfeigaaM
open Go Go.RowKit
set_option linter.unusedSimpArgs false
variable {X : Contracts}
theorem minusN {a b c d : Int} (h : Nr a b) (h' : Nr c d) : Ret F X 75 [.ag [.i .i64 a, .i .i64 b], .ag [.i .i64 c, .i .i64 d]] (.ag [.i .i64 (a - c), .i .i64 (b - d)]) := by
  have := minus_ok (X := X) a b c d
  obtain ⟨_, _, w1, w2⟩ := h.d h'
  have e1 : IntKind.wrap .i64 (a - c) = a - c := w1
  have e2 : IntKind.wrap .i64 (b - d) = b - d := w2
  rwa [e1, e2] at this
theorem dotS {a b c d : Int} (ha : Sm a) (hb : Sm b) (hc : Sm c) (hd : Sm d) : Ret F X 76 [.ag [.i .i64 a, .i .i64 b], .ag [.i .i64 c, .i .i64 d]] (.i .i64 (a * c + b * d)) := by
  have := dot_ok (X := X) a b c d
  have e1 : IntKind.wrap .i64 (IntKind.wrap .i64 (a * c) + IntKind.wrap .i64 (b * d)) = a * c + b * d := (Sm.dt ha hc hb hd).1
  rwa [e1] at this
theorem crossS {a b c d : Int} (ha : Sm a) (hb : Sm b) (hc : Sm c) (hd : Sm d) : Ret F X 74 [.ag [.i .i64 a, .i .i64 b], .ag [.i .i64 c, .i .i64 d]] (.i .i64 (a * d - b * c)) := by
  have := cross_ok (X := X) a b c d
  have e1 : IntKind.wrap .i64 (IntKind.wrap .i64 (a * d) - IntKind.wrap .i64 (b * c)) = a * d - b * c := (Sm.cr ha hd hb hc).1
  rwa [e1] at this
theorem Div64N (P n : Nat) (hn : n < 18446744073709551616) (h : P / 18446744073709551616 < n) : Ret F XS 81 [.i .u64 ((P / 18446744073709551616 : Nat) : Int), .i .u64 ((P % 18446744073709551616 : Nat) : Int), .i .u64 n] (.tu [.i .u64 ((P / n : Nat) : Int), .i .u64 ((P % n : Nat) : Int)]) := by
  have := Div64_ok ((P / 18446744073709551616 : Nat) : Int) ((P % 18446744073709551616 : Nat) : Int) n (by omega) (by omega) (by omega) (by omega) (by omega)
  have e : ((P / 18446744073709551616 : Nat) : Int) * 18446744073709551616 + ((P % 18446744073709551616 : Nat) : Int) = (P : Int) := by omega
  rw [e] at this
  exact this
theorem w64n (k : Nat) (h : k ≤ 9223372036854775807) : IntKind.wrap .i64 (k : Int) = (k : Int) := w64 (by omega) (by omega)
def farN (c n : Nat) : Int × Int := if c * c / Nat.gcd n (c * c) ≤ 9223372036854775807 then (((c * c / Nat.gcd n (c * c) : Nat) : Int), ((n / Nat.gcd n (c * c) : Nat) : Int)) else (((c * c / n : Nat) : Int), 1)
def distN (dx dy ux uy vx vy : Int) : Int × Int :=
  if ux * dx + uy * dy ≤ 0 then (ux * ux + uy * uy, 1) else if dx * dx + dy * dy ≤ ux * dx + uy * dy then (vx * vx + vy * vy, 1)
  else farN (dx * uy - dy * ux).natAbs (dx * dx + dy * dy).toNat
theorem lagr (dx dy ux uy : Int) : (dx * uy - dy * ux) * (dx * uy - dy * ux) + (ux * dx + uy * dy) * (ux * dx + uy * dy) = (dx * dx + dy * dy) * (ux * ux + uy * uy) := by grind
theorem sq_nonneg (x : Int) : 0 ≤ x * x := by
  have := sgnM x x
  omega
def dist (a b c d e f : Int) : Int × Int := if nr3 a b c d e f = true then distN (c - a) (d - b) (e - a) (f - b) (e - c) (f - d) else (0, 0)
end Go.Proofs.YtgamkmgdbfeigaaM
