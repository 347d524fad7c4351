/- The distance of a point from a segment, on the machine. -/
import Derived.Test.YtnanlipnhdifgaaPG1
namespace Go.Proofs.YtnanlipnhdifgaaM
open Go Go.RowKit
set_option linter.unusedSimpArgs false
variable {X : Contracts}
theorem minusN {a b c d : Int} (h : Nr a b) (h' : Nr c d) : Ret F X 34 [.ag [.i .i64 a, .i .i64 b], .ag [.i .i64 c, .i .i64 d]] (.ag [.i .i64 (a - c), .i .i64 (b - d)]) := by
  have := minus_ok (X := X) a b c d
  obtain ⟨_, _, w1, w2⟩ := h.d h'
  have e1 : IntKind.wrap .i64 (a - c) = a - c := w1
  have e2 : IntKind.wrap .i64 (b - d) = b - d := w2
  rwa [e1, e2] at this
theorem dotS {a b c d : Int} (ha : Sm a) (hb : Sm b) (hc : Sm c) (hd : Sm d) : Ret F X 45 [.ag [.i .i64 a, .i .i64 b], .ag [.i .i64 c, .i .i64 d]] (.i .i64 (a * c + b * d)) := by
  have := dot_ok (X := X) a b c d
  have e1 : IntKind.wrap .i64 (IntKind.wrap .i64 (a * c) + IntKind.wrap .i64 (b * d)) = a * c + b * d := (Sm.dt ha hc hb hd).1
  rwa [e1] at this
theorem crossS {a b c d : Int} (ha : Sm a) (hb : Sm b) (hc : Sm c) (hd : Sm d) : Ret F X 33 [.ag [.i .i64 a, .i .i64 b], .ag [.i .i64 c, .i .i64 d]] (.i .i64 (a * d - b * c)) := by
  have := cross_ok (X := X) a b c d
  have e1 : IntKind.wrap .i64 (IntKind.wrap .i64 (a * d) - IntKind.wrap .i64 (b * c)) = a * d - b * c := (Sm.cr ha hd hb hc).1
  rwa [e1] at this
theorem Div64N (P n : Nat) (hn : n < 18446744073709551616) (h : P / 18446744073709551616 < n) : Ret F XS 48 [.i .u64 ((P / 18446744073709551616 : Nat) : Int), .i .u64 ((P % 18446744073709551616 : Nat) : Int), .i .u64 n] (.tu [.i .u64 ((P / n : Nat) : Int), .i .u64 ((P % n : Nat) : Int)]) := by
  have := Div64_ok ((P / 18446744073709551616 : Nat) : Int) ((P % 18446744073709551616 : Nat) : Int) n (by omega) (by omega) (by omega) (by omega) (by omega)
  have e : ((P / 18446744073709551616 : Nat) : Int) * 18446744073709551616 + ((P % 18446744073709551616 : Nat) : Int) = (P : Int) := by omega
  rw [e] at this
  exact this
theorem GcdN (m n : Nat) (hm : m ≤ 9223372036854775807) (hn : n ≤ 9223372036854775807) : Ret F X 49 [.i .i64 m, .i .i64 n] (.i .i64 (Nat.gcd m n : Nat)) := Gcd_ok m n (by omega) (by omega)
theorem w64n (k : Nat) (h : k ≤ 9223372036854775807) : IntKind.wrap .i64 (k : Int) = (k : Int) := w64 (by omega) (by omega)
def farN (c n : Nat) : Int × Int := if c * c / Nat.gcd n (c * c) ≤ 9223372036854775807 then (((c * c / Nat.gcd n (c * c) : Nat) : Int), ((n / Nat.gcd n (c * c) : Nat) : Int)) else (((c * c / n : Nat) : Int), 1)
def distN (dx dy ux uy vx vy : Int) : Int × Int :=
  if ux * dx + uy * dy ≤ 0 then (ux * ux + uy * uy, 1) else if dx * dx + dy * dy ≤ ux * dx + uy * dy then (vx * vx + vy * vy, 1)
  else farN (dx * uy - dy * ux).natAbs (dx * dx + dy * dy).toNat
theorem lagr (dx dy ux uy : Int) : (dx * uy - dy * ux) * (dx * uy - dy * ux) + (ux * dx + uy * dy) * (ux * dx + uy * dy) = (dx * dx + dy * dy) * (ux * ux + uy * uy) := by grind
theorem sq_nonneg (x : Int) : 0 ≤ x * x := by
  have := sgnM x x
  omega
def dist (a b c d e f : Int) : Int × Int := if nr3 a b c d e f = true then distN (c - a) (d - b) (e - a) (f - b) (e - c) (f - d) else (0, 0)
set_option maxHeartbeats 4000000 in
theorem Dist_ok (a b c d e f : Int) : Ret F XS 24 [.ag [.i .i64 a, .i .i64 b], .ag [.i .i64 c, .i .i64 d], .ag [.i .i64 e, .i .i64 f]] (.ag [.i .i64 (dist a b c d e f).1, .i .i64 (dist a b c d e f).2]) := by
  have hnear := near3_ok (X := XS) a b c d e f
  by_cases hn3 : nr3 a b c d e f = true
  · obtain ⟨h1, h2, h3⟩ := (nr3_iff ..).1 hn3
    rw [show (nr a b && (nr c d && nr e f)) = true from hn3] at hnear
    have hd : dist a b c d e f = distN (c - a) (d - b) (e - a) (f - b) (e - c) (f - d) := by unfold dist; rw [if_pos hn3]
    rw [hd]
    obtain ⟨sdx, sdy, _, _⟩ := h2.d h1
    obtain ⟨sux, suy, _, _⟩ := h3.d h1
    obtain ⟨svx, svy, _, _⟩ := h3.d h2
    have m1 := minusN (X := XS) h2 h1
    have m2 := minusN (X := XS) h3 h1
    have m3 := minusN (X := XS) h3 h2
    generalize c - a = dx at *
    generalize d - b = dy at *
    generalize e - a = ux at *
    generalize f - b = uy at *
    generalize e - c = vx at *
    generalize f - d = vy at *
    have b1 := (Sm.dt sdx sdx sdy sdy).2
    have b2 := (Sm.dt sux sux suy suy).2
    have b3 := (Sm.cr sdx suy sdy sux).2
    have q1 := sq_nonneg dx
    have q2 := sq_nonneg dy
    have q3 := sq_nonneg ux
    have q4 := sq_nonneg uy
    have lg := lagr dx dy ux uy
    obtain ⟨n, hn⟩ : ∃ n : Nat, dx * dx + dy * dy = (n : Int) := ⟨(dx * dx + dy * dy).toNat, by omega⟩
    obtain ⟨Uq, hU⟩ : ∃ U : Nat, ux * ux + uy * uy = (U : Int) := ⟨(ux * ux + uy * uy).toNat, by omega⟩
    obtain ⟨cc, hc0⟩ : ∃ cc : Int, dx * uy - dy * ux = cc := ⟨_, rfl⟩
    obtain ⟨cn, hcn⟩ : ∃ cn : Nat, cc.natAbs = cn := ⟨_, rfl⟩
    rw [hc0] at lg b3
    rw [hn] at b1 lg
    rw [hU] at b2 lg
    have f1 : IntKind.wrap .i64 (0 - cc) = -cc := by rw [w64 (by omega) (by omega)]; omega
    have f2 : (if -cc > cc then -cc else cc) = (cn : Int) := by split <;> omega
    have f3 : IntKind.wrap .u64 (cn : Int) = (cn : Int) := by rw [wu64]; omega
    have f4 : IntKind.wrap .u64 (n : Int) = (n : Int) := by rw [wu64]; omega
    have hM := Mul64_ok cn cn (by omega) (by omega)
    -- the square is small beside the length
    have hP : cn * cn ≤ n * Uq := by
      have e1 : ((cn * cn : Nat) : Int) = cc * cc := by rw [← hcn, ← Int.natAbs_mul, Int.natAbs_of_nonneg (sq_nonneg cc)]
      have := sq_nonneg (ux * dx + uy * dy)
      have e2 : ((n * Uq : Nat) : Int) = (n : Int) * (Uq : Int) := Int.natCast_mul ..
      omega
    refine fn_rule true rfl rfl ?_
    unfold fn24b
    repeat' (first | with_reducible refine seqK_n ?_ | with_reducible refine wp_seq' ?_ | with_reducible refine wp_blk' ?_ | with_reducible refine wp_skip' ?_ | with_reducible refine wp_ret' ?_ | with_reducible refine wp_exit' ?_ | with_reducible refine seqK_e ?_ | with_reducible refine seqK_r ?_ | with_reducible refine blkK_n ?_ | with_reducible refine blkK_e ?_ | with_reducible refine blkK_x (by decide) ?_ | with_reducible refine blkK_r ?_ | with_reducible refine wp_regc' ?_ | with_reducible exact he_nil | with_reducible exact imp_x | with_reducible exact imp_y | with_reducible refine imp_t ?_ | with_reducible refine imp_f ?_ | ((with_reducible apply wpr_fin); (focus rfl)) | ((with_reducible apply he_ok); (focus rfl)) | ((with_reducible apply ht_ok); (focus rfl)) | ((with_reducible apply wpr_callv); (focus (simp only [runR, evT, O.isCall, R.still, O.isPure, O.touch, O.evP, A.ev, put, envOf, look_hd, look_tl, look_nil, V.tid, V.ids, idL, V.good, V.cells, hget_z, hget_s, hget_nil, ldV, part, binV, intBin, isShift, unV, cellsIf, eqs, eq1, setPart, elems, frz, frL, frR, frsR, frsV, frsL, R.dsts, kill, V.isSc, V.scal, optA, V.asNat, resEv, Res.ev, seqK, blkK, cEnv, cV, cL, cLs, cId, posOf, cBlks, cBlk, oldBlk, List.length_cons, List.length_nil, Nat.reduceAdd, Nat.reduceEqDiff, Nat.reduceBEq, Nat.reduceLT, Nat.reduceLeDiff, Nat.reduceSub, Nat.reduceMul, ne_eq, not_false_eq_true, Nat.zero_ne_one, reduceCtorEq, beqD, bltD, bleD, decide_true, decide_false, decide_eq_true_eq, Nat.lt_irrefl, eq_self, Nat.zero_lt_succ, Nat.lt_add_one, Nat.succ_ne_self, List.getElem?_cons_zero, List.getElem?_cons_succ, Option.bind_some, Option.map_some, Option.bind_none, Option.map_none, cond_true, cond_false, Bool.and_true, Bool.true_and, Bool.and_false, Bool.false_and, Bool.or_true, Bool.true_or, Bool.or_false, Bool.false_or, Bool.not_true, Bool.not_false, List.all_cons, List.all_nil, List.map_cons, List.map_nil, List.flatMap_cons, List.flatMap_nil, List.nil_append, List.cons_append, List.append_nil, List.drop_zero, List.drop_succ_cons, List.take_zero, List.take_succ_cons, List.take_nil, List.drop_nil, List.set_cons_zero, List.set_cons_succ, List.replicate, Nat.add_zero, Nat.zero_add, decide_true, decide_false, if_true, if_false, and_self, and_true, true_and, List.length_map, List.getElem?_map, Int.toNat_natCast, Int.natCast_nonneg, Int.natCast_add, List.length_cons, Nat.sub_self, List.getElem?_nil, killH, List.foldl_nil, List.foldl_cons, hn, hU, hc0, f1, f2, f3, f4]; first | done | rfl)); (focus (first | exact hnear | exact m1 | exact m2 | exact m3 | exact dotS (by assumption) (by assumption) (by assumption) (by assumption) | exact crossS (by assumption) (by assumption) (by assumption) (by assumption) | exact whole_ok _ | exact hM))) | ((first | (with_reducible first | apply sc_endv | apply sc_any | apply wp_cnd' | apply fin_ret | apply fin_nrm | apply ht_ok) | ((with_reducible apply wpr_run1); (focus rfl))); (focus (simp only [runR, evT, O.isCall, R.still, O.isPure, O.touch, O.evP, A.ev, put, envOf, look_hd, look_tl, look_nil, V.tid, V.ids, idL, V.good, V.cells, hget_z, hget_s, hget_nil, ldV, part, binV, intBin, isShift, unV, cellsIf, eqs, eq1, setPart, elems, frz, frL, frR, frsR, frsV, frsL, R.dsts, kill, V.isSc, V.scal, optA, V.asNat, resEv, Res.ev, seqK, blkK, cEnv, cV, cL, cLs, cId, posOf, cBlks, cBlk, oldBlk, List.length_cons, List.length_nil, Nat.reduceAdd, Nat.reduceEqDiff, Nat.reduceBEq, Nat.reduceLT, Nat.reduceLeDiff, Nat.reduceSub, Nat.reduceMul, ne_eq, not_false_eq_true, Nat.zero_ne_one, reduceCtorEq, beqD, bltD, bleD, decide_true, decide_false, decide_eq_true_eq, Nat.lt_irrefl, eq_self, Nat.zero_lt_succ, Nat.lt_add_one, Nat.succ_ne_self, List.getElem?_cons_zero, List.getElem?_cons_succ, Option.bind_some, Option.map_some, Option.bind_none, Option.map_none, cond_true, cond_false, Bool.and_true, Bool.true_and, Bool.and_false, Bool.false_and, Bool.or_true, Bool.true_or, Bool.or_false, Bool.false_or, Bool.not_true, Bool.not_false, List.all_cons, List.all_nil, List.map_cons, List.map_nil, List.flatMap_cons, List.flatMap_nil, List.nil_append, List.cons_append, List.append_nil, List.drop_zero, List.drop_succ_cons, List.take_zero, List.take_succ_cons, List.take_nil, List.drop_nil, List.set_cons_zero, List.set_cons_succ, List.replicate, Nat.add_zero, Nat.zero_add, decide_true, decide_false, if_true, if_false, and_self, and_true, true_and, List.length_map, List.getElem?_map, Int.toNat_natCast, Int.natCast_nonneg, Int.natCast_add, List.length_cons, Nat.sub_self, List.getElem?_nil, killH, List.foldl_nil, List.foldl_cons, hn, hU, hc0, f1, f2, f3, f4]; first | done | rfl))) | (intro hc; try simp only [decide_eq_true_eq, decide_eq_false_iff_not, beq_iff_eq, beq_eq_false_iff_ne, ne_eq, bne_iff_ne, bne_eq_false_iff_eq, Bool.or_eq_true, Bool.or_eq_false_iff, Bool.and_eq_true, Bool.and_eq_false_iff, Bool.not_eq_true', Bool.not_eq_false'] at hc))
    · have e : distN dx dy ux uy vx vy = ((Uq : Int), 1) := by unfold distN; rw [if_pos hc, hU]
      rw [e]; exact ⟨rfl, rfl⟩
    · rename_i h0
      have e : distN dx dy ux uy vx vy = (vx * vx + vy * vy, 1) := by unfold distN; rw [if_neg h0, hn, if_pos (by omega)]
      rw [e]; exact ⟨rfl, rfl⟩
    · rename_i h0
      have e : distN dx dy ux uy vx vy = farN cn n := by unfold distN; rw [if_neg h0, hn, if_neg (by omega), hc0, hcn, Int.toNat_natCast]
      rw [e]
      have hnp : 0 < n := by omega
      unfold farN
      generalize cn * cn = P at *
      have hPn : P / n ≤ Uq := by
        have := Nat.div_le_div_right (c := n) hP
        rwa [Nat.mul_div_cancel_left _ hnp] at this
      have hhi : P / 18446744073709551616 < n := by
        have : n * Uq < n * 18446744073709551616 := Nat.mul_lt_mul_of_pos_left (by omega) hnp
        rw [Nat.div_lt_iff_lt_mul (by decide)]; omega
      have hr := Nat.mod_lt P hnp
      have f5 : IntKind.wrap .i64 ((P % n : Nat) : Int) = ((P % n : Nat) : Int) := w64 (by omega) (by omega)
      have hg : Nat.gcd n (P % n) = Nat.gcd n P := by rw [Nat.gcd_comm n (P % n), ← Nat.gcd_rec, Nat.gcd_comm]
      have hG := GcdN (X := XS) n (P % n) (by omega) (by omega)
      rw [hg] at hG
      have hgp : 0 < Nat.gcd n P := Nat.gcd_pos_of_pos_left _ hnp
      have hgn : Nat.gcd n P ≤ n := Nat.gcd_le_left _ hnp
      generalize Nat.gcd n P = g at *
      have f6 : IntKind.wrap .u64 (g : Int) = (g : Int) := by rw [wu64]; omega
      have f7 : IntKind.wrap .i64 ((P / n : Nat) : Int) = ((P / n : Nat) : Int) := w64n _ (by omega)
      have f8 : ¬ (g : Int) = 0 := by omega
      have f9 : IntKind.wrap .i64 ((n : Int).tdiv (g : Int)) = ((n / g : Nat) : Int) := by
        have h1 : (n : Int).tdiv (g : Int) = ((n / g : Nat) : Int) := rfl
        have h2 : n / g ≤ n := Nat.div_le_self ..
        rw [h1, w64n _ (by omega)]
      repeat' (first | with_reducible refine seqK_n ?_ | with_reducible refine wp_seq' ?_ | with_reducible refine wp_blk' ?_ | with_reducible refine wp_skip' ?_ | with_reducible refine wp_ret' ?_ | with_reducible refine wp_exit' ?_ | with_reducible refine seqK_e ?_ | with_reducible refine seqK_r ?_ | with_reducible refine blkK_n ?_ | with_reducible refine blkK_e ?_ | with_reducible refine blkK_x (by decide) ?_ | with_reducible refine blkK_r ?_ | with_reducible refine wp_regc' ?_ | with_reducible exact he_nil | with_reducible exact imp_x | with_reducible exact imp_y | with_reducible refine imp_t ?_ | with_reducible refine imp_f ?_ | ((with_reducible apply wpr_fin); (focus rfl)) | ((with_reducible apply he_ok); (focus rfl)) | ((with_reducible apply ht_ok); (focus rfl)) | ((with_reducible apply wpr_callv); (focus (simp only [runR, evT, O.isCall, R.still, O.isPure, O.touch, O.evP, A.ev, put, envOf, look_hd, look_tl, look_nil, V.tid, V.ids, idL, V.good, V.cells, hget_z, hget_s, hget_nil, ldV, part, binV, intBin, isShift, unV, cellsIf, eqs, eq1, setPart, elems, frz, frL, frR, frsR, frsV, frsL, R.dsts, kill, V.isSc, V.scal, optA, V.asNat, resEv, Res.ev, seqK, blkK, cEnv, cV, cL, cLs, cId, posOf, cBlks, cBlk, oldBlk, List.length_cons, List.length_nil, Nat.reduceAdd, Nat.reduceEqDiff, Nat.reduceBEq, Nat.reduceLT, Nat.reduceLeDiff, Nat.reduceSub, Nat.reduceMul, ne_eq, not_false_eq_true, Nat.zero_ne_one, reduceCtorEq, beqD, bltD, bleD, decide_true, decide_false, decide_eq_true_eq, Nat.lt_irrefl, eq_self, Nat.zero_lt_succ, Nat.lt_add_one, Nat.succ_ne_self, List.getElem?_cons_zero, List.getElem?_cons_succ, Option.bind_some, Option.map_some, Option.bind_none, Option.map_none, cond_true, cond_false, Bool.and_true, Bool.true_and, Bool.and_false, Bool.false_and, Bool.or_true, Bool.true_or, Bool.or_false, Bool.false_or, Bool.not_true, Bool.not_false, List.all_cons, List.all_nil, List.map_cons, List.map_nil, List.flatMap_cons, List.flatMap_nil, List.nil_append, List.cons_append, List.append_nil, List.drop_zero, List.drop_succ_cons, List.take_zero, List.take_succ_cons, List.take_nil, List.drop_nil, List.set_cons_zero, List.set_cons_succ, List.replicate, Nat.add_zero, Nat.zero_add, decide_true, decide_false, if_true, if_false, and_self, and_true, true_and, List.length_map, List.getElem?_map, Int.toNat_natCast, Int.natCast_nonneg, Int.natCast_add, List.length_cons, Nat.sub_self, List.getElem?_nil, killH, List.foldl_nil, List.foldl_cons, f4, f5, f6, f7, f8, f9]; first | done | rfl)); (focus (first | exact Div64N P _ (by omega) (by omega) | exact hG | exact whole_ok _))) | ((first | (with_reducible first | apply sc_endv | apply sc_any | apply wp_cnd' | apply fin_ret | apply fin_nrm | apply ht_ok) | ((with_reducible apply wpr_run1); (focus rfl))); (focus (simp only [runR, evT, O.isCall, R.still, O.isPure, O.touch, O.evP, A.ev, put, envOf, look_hd, look_tl, look_nil, V.tid, V.ids, idL, V.good, V.cells, hget_z, hget_s, hget_nil, ldV, part, binV, intBin, isShift, unV, cellsIf, eqs, eq1, setPart, elems, frz, frL, frR, frsR, frsV, frsL, R.dsts, kill, V.isSc, V.scal, optA, V.asNat, resEv, Res.ev, seqK, blkK, cEnv, cV, cL, cLs, cId, posOf, cBlks, cBlk, oldBlk, List.length_cons, List.length_nil, Nat.reduceAdd, Nat.reduceEqDiff, Nat.reduceBEq, Nat.reduceLT, Nat.reduceLeDiff, Nat.reduceSub, Nat.reduceMul, ne_eq, not_false_eq_true, Nat.zero_ne_one, reduceCtorEq, beqD, bltD, bleD, decide_true, decide_false, decide_eq_true_eq, Nat.lt_irrefl, eq_self, Nat.zero_lt_succ, Nat.lt_add_one, Nat.succ_ne_self, List.getElem?_cons_zero, List.getElem?_cons_succ, Option.bind_some, Option.map_some, Option.bind_none, Option.map_none, cond_true, cond_false, Bool.and_true, Bool.true_and, Bool.and_false, Bool.false_and, Bool.or_true, Bool.true_or, Bool.or_false, Bool.false_or, Bool.not_true, Bool.not_false, List.all_cons, List.all_nil, List.map_cons, List.map_nil, List.flatMap_cons, List.flatMap_nil, List.nil_append, List.cons_append, List.append_nil, List.drop_zero, List.drop_succ_cons, List.take_zero, List.take_succ_cons, List.take_nil, List.drop_nil, List.set_cons_zero, List.set_cons_succ, List.replicate, Nat.add_zero, Nat.zero_add, decide_true, decide_false, if_true, if_false, and_self, and_true, true_and, List.length_map, List.getElem?_map, Int.toNat_natCast, Int.natCast_nonneg, Int.natCast_add, List.length_cons, Nat.sub_self, List.getElem?_nil, killH, List.foldl_nil, List.foldl_cons, f4, f5, f6, f7, f8, f9]; first | done | rfl))) | (intro hc; try simp only [decide_eq_true_eq, decide_eq_false_iff_not, beq_iff_eq, beq_eq_false_iff_ne, ne_eq, bne_iff_ne, bne_eq_false_iff_eq, Bool.or_eq_true, Bool.or_eq_false_iff, Bool.and_eq_true, Bool.and_eq_false_iff, Bool.not_eq_true', Bool.not_eq_false'] at hc))
      · have hov : ¬ P / g ≤ 9223372036854775807 := by
          have : 18446744073709551616 ≤ P / g := by rw [Nat.le_div_iff_mul_le hgp]; omega
          omega
        rw [if_neg hov]; exact ⟨rfl, rfl⟩
      · rw [if_neg (by omega)]; exact ⟨rfl, rfl⟩
      · have e2 : IntKind.wrap .i64 ((P / g : Nat) : Int) = ((P / g : Nat) : Int) := w64n _ (by omega)
        rw [if_pos (by omega), e2]; exact ⟨rfl, rfl⟩
  · rw [show (nr a b && (nr c d && nr e f)) = false from Bool.eq_false_iff.2 hn3] at hnear
    have hd : dist a b c d e f = (0, 0) := by unfold dist; rw [if_neg hn3]
    rw [hd]
    refine fn_rule true rfl rfl ?_
    unfold fn24b
    repeat' (first | with_reducible refine seqK_n ?_ | with_reducible refine wp_seq' ?_ | with_reducible refine wp_blk' ?_ | with_reducible refine wp_skip' ?_ | with_reducible refine wp_ret' ?_ | with_reducible refine wp_exit' ?_ | with_reducible refine seqK_e ?_ | with_reducible refine seqK_r ?_ | with_reducible refine blkK_n ?_ | with_reducible refine blkK_e ?_ | with_reducible refine blkK_x (by decide) ?_ | with_reducible refine blkK_r ?_ | with_reducible refine wp_regc' ?_ | with_reducible exact he_nil | with_reducible exact imp_x | with_reducible exact imp_y | with_reducible refine imp_t ?_ | with_reducible refine imp_f ?_ | ((with_reducible apply wpr_fin); (focus rfl)) | ((with_reducible apply he_ok); (focus rfl)) | ((with_reducible apply ht_ok); (focus rfl)) | ((with_reducible apply wpr_callv); (focus (simp only [runR, evT, O.isCall, R.still, O.isPure, O.touch, O.evP, A.ev, put, envOf, look_hd, look_tl, look_nil, V.tid, V.ids, idL, V.good, V.cells, hget_z, hget_s, hget_nil, ldV, part, binV, intBin, isShift, unV, cellsIf, eqs, eq1, setPart, elems, frz, frL, frR, frsR, frsV, frsL, R.dsts, kill, V.isSc, V.scal, optA, V.asNat, resEv, Res.ev, seqK, blkK, cEnv, cV, cL, cLs, cId, posOf, cBlks, cBlk, oldBlk, List.length_cons, List.length_nil, Nat.reduceAdd, Nat.reduceEqDiff, Nat.reduceBEq, Nat.reduceLT, Nat.reduceLeDiff, Nat.reduceSub, Nat.reduceMul, ne_eq, not_false_eq_true, Nat.zero_ne_one, reduceCtorEq, beqD, bltD, bleD, decide_true, decide_false, decide_eq_true_eq, Nat.lt_irrefl, eq_self, Nat.zero_lt_succ, Nat.lt_add_one, Nat.succ_ne_self, List.getElem?_cons_zero, List.getElem?_cons_succ, Option.bind_some, Option.map_some, Option.bind_none, Option.map_none, cond_true, cond_false, Bool.and_true, Bool.true_and, Bool.and_false, Bool.false_and, Bool.or_true, Bool.true_or, Bool.or_false, Bool.false_or, Bool.not_true, Bool.not_false, List.all_cons, List.all_nil, List.map_cons, List.map_nil, List.flatMap_cons, List.flatMap_nil, List.nil_append, List.cons_append, List.append_nil, List.drop_zero, List.drop_succ_cons, List.take_zero, List.take_succ_cons, List.take_nil, List.drop_nil, List.set_cons_zero, List.set_cons_succ, List.replicate, Nat.add_zero, Nat.zero_add, decide_true, decide_false, if_true, if_false, and_self, and_true, true_and, List.length_map, List.getElem?_map, Int.toNat_natCast, Int.natCast_nonneg, Int.natCast_add, List.length_cons, Nat.sub_self, List.getElem?_nil, killH, List.foldl_nil, List.foldl_cons]; first | done | rfl)); (focus (first | exact hnear))) | ((first | (with_reducible first | apply sc_endv | apply sc_any | apply wp_cnd' | apply fin_ret | apply fin_nrm | apply ht_ok) | ((with_reducible apply wpr_run1); (focus rfl))); (focus (simp only [runR, evT, O.isCall, R.still, O.isPure, O.touch, O.evP, A.ev, put, envOf, look_hd, look_tl, look_nil, V.tid, V.ids, idL, V.good, V.cells, hget_z, hget_s, hget_nil, ldV, part, binV, intBin, isShift, unV, cellsIf, eqs, eq1, setPart, elems, frz, frL, frR, frsR, frsV, frsL, R.dsts, kill, V.isSc, V.scal, optA, V.asNat, resEv, Res.ev, seqK, blkK, cEnv, cV, cL, cLs, cId, posOf, cBlks, cBlk, oldBlk, List.length_cons, List.length_nil, Nat.reduceAdd, Nat.reduceEqDiff, Nat.reduceBEq, Nat.reduceLT, Nat.reduceLeDiff, Nat.reduceSub, Nat.reduceMul, ne_eq, not_false_eq_true, Nat.zero_ne_one, reduceCtorEq, beqD, bltD, bleD, decide_true, decide_false, decide_eq_true_eq, Nat.lt_irrefl, eq_self, Nat.zero_lt_succ, Nat.lt_add_one, Nat.succ_ne_self, List.getElem?_cons_zero, List.getElem?_cons_succ, Option.bind_some, Option.map_some, Option.bind_none, Option.map_none, cond_true, cond_false, Bool.and_true, Bool.true_and, Bool.and_false, Bool.false_and, Bool.or_true, Bool.true_or, Bool.or_false, Bool.false_or, Bool.not_true, Bool.not_false, List.all_cons, List.all_nil, List.map_cons, List.map_nil, List.flatMap_cons, List.flatMap_nil, List.nil_append, List.cons_append, List.append_nil, List.drop_zero, List.drop_succ_cons, List.take_zero, List.take_succ_cons, List.take_nil, List.drop_nil, List.set_cons_zero, List.set_cons_succ, List.replicate, Nat.add_zero, Nat.zero_add, decide_true, decide_false, if_true, if_false, and_self, and_true, true_and, List.length_map, List.getElem?_map, Int.toNat_natCast, Int.natCast_nonneg, Int.natCast_add, List.length_cons, Nat.sub_self, List.getElem?_nil, killH, List.foldl_nil, List.foldl_cons]; first | done | rfl))) | (intro hc; try simp only [decide_eq_true_eq, decide_eq_false_iff_not, beq_iff_eq, beq_eq_false_iff_ne, ne_eq, bne_iff_ne, bne_eq_false_iff_eq, Bool.or_eq_true, Bool.or_eq_false_iff, Bool.and_eq_true, Bool.and_eq_false_iff, Bool.not_eq_true', Bool.not_eq_false'] at hc))
    exact ⟨rfl, rfl⟩
end Go.Proofs.YtnanlipnhdifgaaM
