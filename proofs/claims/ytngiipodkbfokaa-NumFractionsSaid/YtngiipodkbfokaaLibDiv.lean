/- Plain lemmas on the printed functions: numbers and lists alone, no program and no memory. -/
import Derived.Test.YtngiipodkbfokaaLibBits
import Derived.Test.YtngiipodkbfokaaPAllx4
import Derived.Test.YtngiipodkbfokaaPAllx5
namespace Go.Proofs.Ytngiipodkbfokaa.PAll
open Go.RowKit Go.Proofs.YtngiipodkbfokaaW.PrintWords Go.Proofs.YtngiipodkbfokaaW.PrintLast
set_option linter.unusedVariables false
/-! ### bits.Div64 is exact -/
theorem bits_or_add (i : Nat) (x y : Int) (hx0 : 0 ≤ x) (hx : x % 2 ^ i = 0) (hx1 : x < 18446744073709551616) (hy0 : 0 ≤ y) (hy : y < 2 ^ i) (hy1 : y < 18446744073709551616) : Go.bits .or .u64 x y = x + y :=
  bits_join .u64 64 (by decide) (fun n h0 h1 => by rw [u64w]; omega) i x y hx0 hx (by simpa using hx1) hy0 hy (by simpa using hy1)
theorem bits_and_lo (x : Int) (hx0 : 0 ≤ x) (hx1 : x < 18446744073709551616) : Go.bits .and .u64 x 4294967295 = x % 4294967296 :=
  bits_mask .u64 64 (by decide) (fun n h0 h1 => by rw [u64w]; omega) 32 (by decide) x hx0 (by simpa using hx1)
/-- What a scaled division tells of the division itself. -/
theorem scaled_div {M y T : Int} (hT : 0 < T) (hy : 0 < y) : (M * T) / (y * T) = M / y ∧ ((M * T) % (y * T)) / T = M % y := by
  refine ⟨Int.mul_ediv_mul_of_pos_left M y hT, ?_⟩
  rw [Int.mul_comm M T, Int.mul_comm y T, Int.mul_emod_mul_of_pos _ _ hT]
  exact Int.mul_ediv_cancel_left _ (by omega)
/-- Two digits make the quotient. -/
theorem two_digits {a b c y : Int} (hy : 0 < y) (hc0 : 0 ≤ c) :
    (a * 4294967296 + b) / y * 4294967296 + (((a * 4294967296 + b) % y) * 4294967296 + c) / y = ((a * 4294967296 + b) * 4294967296 + c) / y ∧
    (((a * 4294967296 + b) % y) * 4294967296 + c) % y = ((a * 4294967296 + b) * 4294967296 + c) % y := by
  have h := Int.emod_add_mul_ediv (a * 4294967296 + b) y
  generalize (a * 4294967296 + b) = N at *
  have e : N * 4294967296 + c = (N % y * 4294967296 + c) + y * (N / y * 4294967296) := by
    rw [← Int.mul_assoc]
    generalize y * (N / y) = Z at *
    omega
  constructor
  · rw [e, Int.add_mul_ediv_left _ _ (by omega : y ≠ 0)]; omega
  · rw [e, Int.add_mul_emod_self_left]
theorem bits_Div64_eq {hi lo y : Int} (hh : 0 ≤ hi) (hl : 0 ≤ lo) (hl1 : lo < 18446744073709551616) (hy : hi < y) (hy1 : y < 18446744073709551616) :
    ∀ k, 20 ≤ k → bits_Div64.f k hi lo y = some ((hi * 18446744073709551616 + lo) / y, (hi * 18446744073709551616 + lo) % y) := by
  intro k hk
  have hy0 : 0 < y := by omega
  unfold bits_Div64.f
  rw [if_neg (by omega), if_neg (by omega)]
  by_cases hz : hi = 0
  · rw [if_pos hz, Int.tdiv_eq_ediv_of_nonneg hl, Int.tmod_eq_emod_of_nonneg hl]
    subst hz
    have h1 := Int.ediv_le_self y hl
    have h2 : 0 ≤ lo / y := Int.ediv_nonneg hl (by omega)
    refine congrArg some (Prod.ext ?_ ?_)
    · show IntKind.u64.wrap (lo / y) = _
      rw [u64w]
      have h3 : lo / y ≤ lo := Int.ediv_le_self y hl
      have e : (0 * 18446744073709551616 + lo) = lo := by omega
      rw [e]; omega
    · show lo % y = _
      have e : (0 * 18446744073709551616 + lo) = lo := by omega
      rw [e]
  · rw [if_neg hz]
    obtain ⟨yn, rfl⟩ := Int.eq_ofNat_of_zero_le (show 0 ≤ y by omega)
    have hb := bitLen_spec yn (by omega) (by omega)
    unfold bits_LeadingZeros64.f
    rw [if_pos (by omega)]
    simp only [Option.bind_some, Int.toNat_natCast]
    generalize hL : Lib.bitLen yn = L at *
    obtain ⟨hL1, hL2, hL3, hL4⟩ := hb
    -- the shift
    obtain ⟨s, hs⟩ : ∃ s : Nat, s = 64 - L := ⟨_, rfl⟩
    have es : IntKind.u64.wrap (64 - (L : Int)) = (s : Int) := by rw [u64w]; omega
    have es2 : IntKind.u64.wrap (64 - (s : Int)) = (L : Int) := by rw [u64w]; omega
    rw [es, es2, if_pos (by omega), if_pos (by omega)]
    obtain ⟨T, hT⟩ : ∃ T : Nat, T = 2 ^ s := ⟨_, rfl⟩
    obtain ⟨T', hT'⟩ : ∃ T' : Nat, T' = 2 ^ L := ⟨_, rfl⟩
    have hTT : T * T' = 18446744073709551616 := by rw [hT, hT', ← Nat.pow_add, show s + L = 64 by omega]
    have hT0 : 0 < T := by rw [hT]; exact Nat.two_pow_pos s
    have hT'0 : 0 < T' := by rw [hT']; exact Nat.two_pow_pos L
    have hhalf : 9223372036854775808 ≤ yn * T := by
      have e2 : 2 ^ (L - 1) * T = 9223372036854775808 := by rw [hT, ← Nat.pow_add, show L - 1 + s = 63 by omega]
      have := Nat.mul_le_mul_right T hL3
      omega
    have hfull : yn * T < 18446744073709551616 := by
      have := Nat.mul_lt_mul_of_pos_right hL4 hT0
      rw [← hT', Nat.mul_comm T' T, hTT] at this
      exact this
    obtain ⟨hn, rfl⟩ := Int.eq_ofNat_of_zero_le hh
    obtain ⟨ln, rfl⟩ := Int.eq_ofNat_of_zero_le hl
    -- the low word, parted
    obtain ⟨A, hA⟩ : ∃ A, A = ln / T' := ⟨_, rfl⟩
    obtain ⟨Z, hZ⟩ : ∃ Z, Z = ln % T' * T := ⟨_, rfl⟩
    have hlT : ln * T = 18446744073709551616 * A + Z := by
      have h1 := Nat.div_add_mod ln T'
      conv => lhs; rw [← h1]
      rw [Nat.add_mul, Nat.mul_comm T' (ln / T'), Nat.mul_assoc, Nat.mul_comm T' T, hTT, Nat.mul_comm (ln / T'), hA, hZ]
    have hZ1 : Z < 18446744073709551616 := by
      have := Nat.mul_lt_mul_of_pos_right (Nat.mod_lt ln hT'0) hT0
      rw [Nat.mul_comm T' T, hTT, ← hZ] at this
      exact this
    have hAT : A < T := by
      rw [hA, Nat.div_lt_iff_lt_mul hT'0, hTT]; omega
    have hhn : hn * T + T ≤ yn * T := by
      have := Nat.mul_le_mul_right T (show hn + 1 ≤ yn by omega)
      rw [Nat.add_mul, Nat.one_mul] at this
      exact this
    -- what is shifted
    have p2 : ∀ n : Nat, (2 : Int) ^ n = ((2 ^ n : Nat) : Int) := fun n => by simp
    have ey : shl .u64 (yn : Int) (s : Int) = ((yn * T : Nat) : Int) := by
      unfold shl
      rw [Nat.min_eq_left (by show (s : Int).toNat ≤ 64; omega), Int.toNat_natCast, p2, ← hT, ← Int.natCast_mul, u64w]; omega
    have eh : shl .u64 (hn : Int) (s : Int) = ((hn * T : Nat) : Int) := by
      unfold shl
      rw [Nat.min_eq_left (by show (s : Int).toNat ≤ 64; omega), Int.toNat_natCast, p2, ← hT, ← Int.natCast_mul, u64w]; omega
    have el : shl .u64 (ln : Int) (s : Int) = (Z : Int) := by
      unfold shl
      rw [Nat.min_eq_left (by show (s : Int).toNat ≤ 64; omega), Int.toNat_natCast, p2, ← hT, ← Int.natCast_mul, u64w, hlT]; omega
    have er : shr .u64 (ln : Int) (L : Int) = (A : Int) := by
      unfold shr
      rw [Nat.min_eq_left (by show (L : Int).toNat ≤ 64; omega), Int.toNat_natCast, p2, ← hT', hA, Int.natCast_ediv]
    rw [ey, eh, el, er]
    have hor : Go.bits .or .u64 ((hn * T : Nat) : Int) (A : Int) = ((hn * T + A : Nat) : Int) := by
      have m0 : ((hn * T : Nat) : Int) % 2 ^ s = 0 := by rw [p2, ← hT, ← Int.natCast_emod]; simp
      have m1 : (A : Int) < 2 ^ s := by rw [p2, ← hT]; omega
      generalize hn * T = X at *
      rw [bits_or_add s _ _ (by omega) m0 (by omega) (by omega) m1 (by omega), Int.natCast_add]
    rw [hor, bits_and_lo _ (by omega) (by omega), bits_and_lo _ (by omega) (by omega)]
    generalize hY : ((yn * T : Nat) : Int) = Y at *
    generalize hU : ((hn * T + A : Nat) : Int) = U at *
    generalize hV : (Z : Int) = V at *
    have hU0 : 0 ≤ U := by omega
    have hUY : U < Y := by omega
    have hd := Int.emod_add_mul_ediv U (Y / 4294967296)
    have hY1 : 2147483648 ≤ Y / 4294967296 := by omega
    have hd1 := Int.emod_lt_of_pos U (show 0 < Y / 4294967296 by omega)
    have hd2 := Int.emod_nonneg U (by omega : Y / 4294967296 ≠ 0)
    have hd3 : 0 ≤ U / (Y / 4294967296) := Int.ediv_nonneg hU0 (by omega)
    have hd4 : U / (Y / 4294967296) ≤ U := Int.ediv_le_self _ hU0
    have hcom : U / (Y / 4294967296) * (Y / 4294967296) = Y / 4294967296 * (U / (Y / 4294967296)) := Int.mul_comm _ _
    rw [Int.tdiv_eq_ediv_of_nonneg hU0, if_neg (by omega)]
    have ew : IntKind.u64.wrap (U / (Y / 4294967296)) = U / (Y / 4294967296) := by rw [u64w]; omega
    have ee : IntKind.u64.wrap (U - IntKind.u64.wrap (U / (Y / 4294967296) * (Y / 4294967296))) = U % (Y / 4294967296) := by simp only [u64w]; omega
    rw [ew, ee]
    have hYs : Y = Y / 4294967296 * 4294967296 + Y % 4294967296 := by omega
    rw [dv_l0 (s := (s : Int)) hYs (by omega) (by omega) hY1 (by omega) (by omega) (by omega) hU0 hUY (un1 := V / 4294967296) (un0 := V % 4294967296) (by omega) (by omega) (by omega) (by omega) 2 (U / (Y / 4294967296)) (U % (Y / 4294967296)) (by omega) hd2 (by omega) hd3 ?_ (by omega) k (by omega)]
    · -- the numbers
      have hV2 : (U * 4294967296 + V / 4294967296) * 4294967296 + V % 4294967296 = U * 18446744073709551616 + V := by omega
      have hYp : 0 < Y := by omega
      obtain ⟨t1, t2⟩ := two_digits (a := U) (b := V / 4294967296) (c := V % 4294967296) hYp (by omega)
      rw [t1, t2, hV2]
      have hM : U * 18446744073709551616 + V = ((hn : Int) * 18446744073709551616 + (ln : Int)) * (T : Int) := by
        have e3 : (hn * 18446744073709551616 + ln) * T = hn * T * 18446744073709551616 + ln * T := by
          rw [Nat.add_mul, Nat.mul_right_comm]
        have e4 : ((hn : Int) * 18446744073709551616 + (ln : Int)) * (T : Int) = (((hn * 18446744073709551616 + ln) * T : Nat) : Int) := by
          rw [Int.natCast_mul, Int.natCast_add, Int.natCast_mul]; rfl
        rw [e4, e3, hlT, ← hU, ← hV]
        generalize hn * T = X at *
        omega
      have hYT : Y = (yn : Int) * (T : Int) := by rw [← hY]; simp
      rw [hM, hYT]
      obtain ⟨d1, d2⟩ := scaled_div (M := (hn : Int) * 18446744073709551616 + (ln : Int)) (y := (yn : Int)) (T := (T : Int)) (by omega) (by omega)
      rw [d1, Int.toNat_natCast, p2, ← hT, d2]
    · have : (U * 4294967296 + V / 4294967296) / Y < U / (Y / 4294967296) + 1 := Int.ediv_lt_of_lt_mul (by omega) (by
        have a1 : (U / (Y / 4294967296) + 1) * Y = (U / (Y / 4294967296) * (Y / 4294967296) + Y / 4294967296) * 4294967296 + (U / (Y / 4294967296) + 1) * (Y % 4294967296) := by
          have a0 : ∀ c d e : Int, (c + 1) * (d * 4294967296 + e) = (c * d + d) * 4294967296 + (c + 1) * e := fun c d e => by
            rw [Int.mul_add, ← Int.mul_assoc, Int.add_mul, Int.one_mul]
          have a1 := a0 (U / (Y / 4294967296)) (Y / 4294967296) (Y % 4294967296)
          rw [← hYs] at a1
          exact a1
        have a2 : 0 ≤ (U / (Y / 4294967296) + 1) * (Y % 4294967296) := Int.mul_nonneg (by omega) (by omega)
        omega)
      omega
end Go.Proofs.Ytngiipodkbfokaa.PAll
