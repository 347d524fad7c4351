/- bits.Div64 on the machine: it returns the exact quotient and remainder, where the quotient fits. -/
import Derived.Test.YtgamkmgdbfeigaaTB
namespace Go.Proofs.YtgamkmgdbfeigaaM
open Go Go.RowKit
set_option linter.unusedSimpArgs false
variable {X : Contracts}
def dvSt0 (y s yn1 yn0 un32 un1 un0 : Int) (p : Int × Int) : St := ⟨0, [(2, .i .u64 y), (8, .i .u64 s), (9, .i .u64 yn1), (10, .i .u64 yn0), (11, .i .u64 un32), (13, .i .u64 un1), (14, .i .u64 un0), (15, .i .u64 p.1), (16, .i .u64 p.2)], []⟩
def dvI (y yn1 N un : Int) (p : Int × Int) : Prop := p.1 * yn1 + p.2 = N ∧ 0 ≤ p.2 ∧ p.2 < 4294967296 ∧ 0 ≤ p.1 ∧ (N * 4294967296 + un) / y ≤ p.1
def dvR0 (y s yn1 yn0 un32 un1 un0 q : Int) (e : Ex) (s' : St) : Prop := e = .exit 0 ∧ ∃ τ, s' = ⟨0, τ, []⟩ ∧ look τ 2 = .i .u64 y ∧ look τ 8 = .i .u64 s ∧ look τ 9 = .i .u64 yn1 ∧ look τ 10 = .i .u64 yn0 ∧ look τ 11 = .i .u64 un32 ∧ look τ 13 = .i .u64 un1 ∧ look τ 14 = .i .u64 un0 ∧ look τ 15 = .i .u64 q
theorem dv_lp0 {y s yn1 yn0 un32 un1 un0 : Int} (hy : y = yn1 * 4294967296 + yn0) (h0 : 0 ≤ yn0) (h1 : yn0 < 4294967296) (h2 : 2147483648 ≤ yn1) (h3 : yn1 < 4294967296) (hu0 : 0 ≤ un32) (hu : un32 < y) (hn10 : 0 ≤ un1) (hn1 : un1 < 4294967296) :
    ∀ p, dvI y yn1 un32 un1 p → J F X (.lp fn81k0 fn81l0 (dvSt0 y s yn1 yn0 un32 un1 un0 p) (dvR0 y s yn1 yn0 un32 un1 un0 ((un32 * 4294967296 + un1) / y))) := by
  have hy0 : 0 < y := by omega
  refine lp_rule true (dvSt0 y s yn1 yn0 un32 un1 un0) (dvI y yn1 un32 un1) (fun p => (4294967296 - p.2).toNat) ?_
  rintro ⟨q, rhat⟩ ⟨hq, hr0, hr, hq0, hge⟩
  simp only at hq hr0 hr hq0 hge
  have hqb := dv_bound hy h0 h1 h2 h3 hu0 hu hn10 hn1 hq hr0 hq0
  have key : (decide (q ≥ 4294967296) || decide (IntKind.wrap .u64 (q * yn0) > IntKind.wrap .u64 (IntKind.wrap .u64 (4294967296 * rhat) + un1))) = decide (q * y > un32 * 4294967296 + un1) := by
    rw [Bool.eq_iff_iff, Bool.or_eq_true, decide_eq_true_eq, decide_eq_true_eq, decide_eq_true_eq]
    have hd := dv_test (un1 := un1) hy hq
    by_cases hbig : q ≥ 4294967296
    · have : 4294967296 * y ≤ q * y := Int.mul_le_mul_of_nonneg_right hbig (by omega)
      omega
    · have e1 : IntKind.wrap .u64 (q * yn0) = q * yn0 := by
        rw [wu64]
        have a1 : q * yn0 ≤ 4294967295 * yn0 := Int.mul_le_mul_of_nonneg_right (by omega) h0
        have a2 : 0 ≤ q * yn0 := Int.mul_nonneg hq0 h0
        omega
      rw [e1, ← hd]; simp only [wu64]; omega
  unfold fn81l0
  by_cases ht : q * y > un32 * 4294967296 + un1
  · rw [decide_eq_true ht] at key
    have hle := dv_top hy0 ht
    have hD0 : 0 ≤ (un32 * 4294967296 + un1) / y := Int.ediv_nonneg (by omega) (by omega)
    have hw : IntKind.wrap .u64 (rhat + yn1) = rhat + yn1 := by rw [wu64]; omega
    have hwq : IntKind.wrap .u64 (q - 1) = q - 1 := by rw [wu64]; omega
    have hq' : (q - 1) * yn1 + (rhat + yn1) = un32 := by rw [Int.sub_mul]; omega
    repeat' (first | with_reducible refine seqK_n ?_ | with_reducible refine wp_seq' ?_ | with_reducible refine wp_blk' ?_ | with_reducible refine wp_skip' ?_ | with_reducible refine wp_ret' ?_ | with_reducible refine wp_exit' ?_ | with_reducible refine seqK_e ?_ | with_reducible refine seqK_r ?_ | with_reducible refine blkK_n ?_ | with_reducible refine blkK_e ?_ | with_reducible refine blkK_x (by decide) ?_ | with_reducible refine blkK_r ?_ | with_reducible refine wp_regc' ?_ | with_reducible exact he_nil | with_reducible exact imp_x | with_reducible exact imp_y | with_reducible refine imp_t ?_ | with_reducible refine imp_f ?_ | ((with_reducible apply wpr_fin); (focus rfl)) | ((with_reducible apply he_ok); (focus rfl)) | ((with_reducible apply ht_ok); (focus rfl)) | ((first | (with_reducible first | apply sc_endv | apply sc_any | apply wp_cnd' | apply fin_ret | apply fin_nrm | apply ht_ok) | ((with_reducible apply wpr_run1); (focus rfl))); (focus (simp only [runR, evT, O.isCall, R.still, O.isPure, O.touch, O.evP, A.ev, put, envOf, look_hd, look_tl, look_nil, V.tid, V.ids, idL, V.good, V.cells, hget_z, hget_s, hget_nil, ldV, part, binV, intBin, isShift, unV, cellsIf, eqs, eq1, setPart, elems, frz, frL, frR, frsR, frsV, frsL, R.dsts, kill, V.isSc, V.scal, optA, V.asNat, resEv, Res.ev, seqK, blkK, cEnv, cV, cL, cLs, cId, posOf, cBlks, cBlk, oldBlk, List.length_cons, List.length_nil, Nat.reduceAdd, Nat.reduceEqDiff, Nat.reduceBEq, Nat.reduceLT, Nat.reduceLeDiff, Nat.reduceSub, Nat.reduceMul, ne_eq, not_false_eq_true, Nat.zero_ne_one, reduceCtorEq, beqD, bltD, bleD, decide_true, decide_false, decide_eq_true_eq, Nat.lt_irrefl, eq_self, Nat.zero_lt_succ, Nat.lt_add_one, Nat.succ_ne_self, List.getElem?_cons_zero, List.getElem?_cons_succ, Option.bind_some, Option.map_some, Option.bind_none, Option.map_none, cond_true, cond_false, Bool.and_true, Bool.true_and, Bool.and_false, Bool.false_and, Bool.or_true, Bool.true_or, Bool.or_false, Bool.false_or, Bool.not_true, Bool.not_false, List.all_cons, List.all_nil, List.map_cons, List.map_nil, List.flatMap_cons, List.flatMap_nil, List.nil_append, List.cons_append, List.append_nil, List.drop_zero, List.drop_succ_cons, List.take_zero, List.take_succ_cons, List.take_nil, List.drop_nil, List.set_cons_zero, List.set_cons_succ, List.replicate, Nat.add_zero, Nat.zero_add, decide_true, decide_false, if_true, if_false, and_self, and_true, true_and, List.length_map, List.getElem?_map, Int.toNat_natCast, Int.natCast_nonneg, Int.natCast_add, List.length_cons, Nat.sub_self, List.getElem?_nil, killH, List.foldl_nil, List.foldl_cons, dvSt0, key, hw, hwq]; first | done | rfl))) | intro hc)
    · refine ⟨rfl, _, rfl, ?_⟩
      have hb := of_decide_eq_true hc
      have hqe : q - 1 = (un32 * 4294967296 + un1) / y := by
        refine dv_end hy0 ?_ hle
        rw [← dv_test (un1 := un1) hy hq']
        have hlt : q - 1 < 4294967296 := by
          by_cases h : q - 1 < 4294967296
          · exact h
          · exfalso
            have h := Int.not_lt.1 h
            have : 4294967296 * yn1 ≤ (q - 1) * yn1 := Int.mul_le_mul_of_nonneg_right h (by omega)
            omega
        have a1 : (q - 1) * yn0 ≤ 4294967295 * yn0 := Int.mul_le_mul_of_nonneg_right (by omega) h0
        omega
      rw [← hqe]
      simp only [runR, evT, O.isCall, R.still, O.isPure, O.touch, O.evP, A.ev, put, envOf, look_hd, look_tl, look_nil, V.tid, V.ids, idL, V.good, V.cells, hget_z, hget_s, hget_nil, ldV, part, binV, intBin, isShift, unV, cellsIf, eqs, eq1, setPart, elems, frz, frL, frR, frsR, frsV, frsL, R.dsts, kill, V.isSc, V.scal, optA, V.asNat, resEv, Res.ev, seqK, blkK, cEnv, cV, cL, cLs, cId, posOf, cBlks, cBlk, oldBlk, List.length_cons, List.length_nil, Nat.reduceAdd, Nat.reduceEqDiff, Nat.reduceBEq, Nat.reduceLT, Nat.reduceLeDiff, Nat.reduceSub, Nat.reduceMul, ne_eq, not_false_eq_true, Nat.zero_ne_one, reduceCtorEq, beqD, bltD, bleD, decide_true, decide_false, decide_eq_true_eq, Nat.lt_irrefl, eq_self, Nat.zero_lt_succ, Nat.lt_add_one, Nat.succ_ne_self, List.getElem?_cons_zero, List.getElem?_cons_succ, Option.bind_some, Option.map_some, Option.bind_none, Option.map_none, cond_true, cond_false, Bool.and_true, Bool.true_and, Bool.and_false, Bool.false_and, Bool.or_true, Bool.true_or, Bool.or_false, Bool.false_or, Bool.not_true, Bool.not_false, List.all_cons, List.all_nil, List.map_cons, List.map_nil, List.flatMap_cons, List.flatMap_nil, List.nil_append, List.cons_append, List.append_nil, List.drop_zero, List.drop_succ_cons, List.take_zero, List.take_succ_cons, List.take_nil, List.drop_nil, List.set_cons_zero, List.set_cons_succ, List.replicate, Nat.add_zero, Nat.zero_add, decide_true, decide_false, if_true, if_false, and_self, and_true, true_and, List.length_map, List.getElem?_map, Int.toNat_natCast, Int.natCast_nonneg, Int.natCast_add, List.length_cons, Nat.sub_self, List.getElem?_nil, killH, List.foldl_nil, List.foldl_cons]
    · have hb := of_decide_eq_false hc
      refine seqK_l ⟨(q - 1, rhat + yn1), ?_, ⟨hq', by omega, by omega, by omega, hle⟩, by omega⟩
      refine canon_0 ?_
      simp only [runR, evT, O.isCall, R.still, O.isPure, O.touch, O.evP, A.ev, put, envOf, look_hd, look_tl, look_nil, V.tid, V.ids, idL, V.good, V.cells, hget_z, hget_s, hget_nil, ldV, part, binV, intBin, isShift, unV, cellsIf, eqs, eq1, setPart, elems, frz, frL, frR, frsR, frsV, frsL, R.dsts, kill, V.isSc, V.scal, optA, V.asNat, resEv, Res.ev, seqK, blkK, cEnv, cV, cL, cLs, cId, posOf, cBlks, cBlk, oldBlk, List.length_cons, List.length_nil, Nat.reduceAdd, Nat.reduceEqDiff, Nat.reduceBEq, Nat.reduceLT, Nat.reduceLeDiff, Nat.reduceSub, Nat.reduceMul, ne_eq, not_false_eq_true, Nat.zero_ne_one, reduceCtorEq, beqD, bltD, bleD, decide_true, decide_false, decide_eq_true_eq, Nat.lt_irrefl, eq_self, Nat.zero_lt_succ, Nat.lt_add_one, Nat.succ_ne_self, List.getElem?_cons_zero, List.getElem?_cons_succ, Option.bind_some, Option.map_some, Option.bind_none, Option.map_none, cond_true, cond_false, Bool.and_true, Bool.true_and, Bool.and_false, Bool.false_and, Bool.or_true, Bool.true_or, Bool.or_false, Bool.false_or, Bool.not_true, Bool.not_false, List.all_cons, List.all_nil, List.map_cons, List.map_nil, List.flatMap_cons, List.flatMap_nil, List.nil_append, List.cons_append, List.append_nil, List.drop_zero, List.drop_succ_cons, List.take_zero, List.take_succ_cons, List.take_nil, List.drop_nil, List.set_cons_zero, List.set_cons_succ, List.replicate, Nat.add_zero, Nat.zero_add, decide_true, decide_false, if_true, if_false, and_self, and_true, true_and, List.length_map, List.getElem?_map, Int.toNat_natCast, Int.natCast_nonneg, Int.natCast_add, List.length_cons, Nat.sub_self, List.getElem?_nil, killH, List.foldl_nil, List.foldl_cons, fn81k0]
  · rw [decide_eq_false ht] at key
    repeat' (first | with_reducible refine seqK_n ?_ | with_reducible refine wp_seq' ?_ | with_reducible refine wp_blk' ?_ | with_reducible refine wp_skip' ?_ | with_reducible refine wp_ret' ?_ | with_reducible refine wp_exit' ?_ | with_reducible refine seqK_e ?_ | with_reducible refine seqK_r ?_ | with_reducible refine blkK_n ?_ | with_reducible refine blkK_e ?_ | with_reducible refine blkK_x (by decide) ?_ | with_reducible refine blkK_r ?_ | with_reducible refine wp_regc' ?_ | with_reducible exact he_nil | with_reducible exact imp_x | with_reducible exact imp_y | with_reducible refine imp_t ?_ | with_reducible refine imp_f ?_ | ((with_reducible apply wpr_fin); (focus rfl)) | ((with_reducible apply he_ok); (focus rfl)) | ((with_reducible apply ht_ok); (focus rfl)) | ((first | (with_reducible first | apply sc_endv | apply sc_any | apply wp_cnd' | apply fin_ret | apply fin_nrm | apply ht_ok) | ((with_reducible apply wpr_run1); (focus rfl))); (focus (simp only [runR, evT, O.isCall, R.still, O.isPure, O.touch, O.evP, A.ev, put, envOf, look_hd, look_tl, look_nil, V.tid, V.ids, idL, V.good, V.cells, hget_z, hget_s, hget_nil, ldV, part, binV, intBin, isShift, unV, cellsIf, eqs, eq1, setPart, elems, frz, frL, frR, frsR, frsV, frsL, R.dsts, kill, V.isSc, V.scal, optA, V.asNat, resEv, Res.ev, seqK, blkK, cEnv, cV, cL, cLs, cId, posOf, cBlks, cBlk, oldBlk, List.length_cons, List.length_nil, Nat.reduceAdd, Nat.reduceEqDiff, Nat.reduceBEq, Nat.reduceLT, Nat.reduceLeDiff, Nat.reduceSub, Nat.reduceMul, ne_eq, not_false_eq_true, Nat.zero_ne_one, reduceCtorEq, beqD, bltD, bleD, decide_true, decide_false, decide_eq_true_eq, Nat.lt_irrefl, eq_self, Nat.zero_lt_succ, Nat.lt_add_one, Nat.succ_ne_self, List.getElem?_cons_zero, List.getElem?_cons_succ, Option.bind_some, Option.map_some, Option.bind_none, Option.map_none, cond_true, cond_false, Bool.and_true, Bool.true_and, Bool.and_false, Bool.false_and, Bool.or_true, Bool.true_or, Bool.or_false, Bool.false_or, Bool.not_true, Bool.not_false, List.all_cons, List.all_nil, List.map_cons, List.map_nil, List.flatMap_cons, List.flatMap_nil, List.nil_append, List.cons_append, List.append_nil, List.drop_zero, List.drop_succ_cons, List.take_zero, List.take_succ_cons, List.take_nil, List.drop_nil, List.set_cons_zero, List.set_cons_succ, List.replicate, Nat.add_zero, Nat.zero_add, decide_true, decide_false, if_true, if_false, and_self, and_true, true_and, List.length_map, List.getElem?_map, Int.toNat_natCast, Int.natCast_nonneg, Int.natCast_add, List.length_cons, Nat.sub_self, List.getElem?_nil, killH, List.foldl_nil, List.foldl_cons, dvSt0, key]; first | done | rfl))) | intro hc)
    refine ⟨rfl, _, rfl, ?_⟩
    rw [← dv_end hy0 ht hge]
    simp only [runR, evT, O.isCall, R.still, O.isPure, O.touch, O.evP, A.ev, put, envOf, look_hd, look_tl, look_nil, V.tid, V.ids, idL, V.good, V.cells, hget_z, hget_s, hget_nil, ldV, part, binV, intBin, isShift, unV, cellsIf, eqs, eq1, setPart, elems, frz, frL, frR, frsR, frsV, frsL, R.dsts, kill, V.isSc, V.scal, optA, V.asNat, resEv, Res.ev, seqK, blkK, cEnv, cV, cL, cLs, cId, posOf, cBlks, cBlk, oldBlk, List.length_cons, List.length_nil, Nat.reduceAdd, Nat.reduceEqDiff, Nat.reduceBEq, Nat.reduceLT, Nat.reduceLeDiff, Nat.reduceSub, Nat.reduceMul, ne_eq, not_false_eq_true, Nat.zero_ne_one, reduceCtorEq, beqD, bltD, bleD, decide_true, decide_false, decide_eq_true_eq, Nat.lt_irrefl, eq_self, Nat.zero_lt_succ, Nat.lt_add_one, Nat.succ_ne_self, List.getElem?_cons_zero, List.getElem?_cons_succ, Option.bind_some, Option.map_some, Option.bind_none, Option.map_none, cond_true, cond_false, Bool.and_true, Bool.true_and, Bool.and_false, Bool.false_and, Bool.or_true, Bool.true_or, Bool.or_false, Bool.false_or, Bool.not_true, Bool.not_false, List.all_cons, List.all_nil, List.map_cons, List.map_nil, List.flatMap_cons, List.flatMap_nil, List.nil_append, List.cons_append, List.append_nil, List.drop_zero, List.drop_succ_cons, List.take_zero, List.take_succ_cons, List.take_nil, List.drop_nil, List.set_cons_zero, List.set_cons_succ, List.replicate, Nat.add_zero, Nat.zero_add, decide_true, decide_false, if_true, if_false, and_self, and_true, true_and, List.length_map, List.getElem?_map, Int.toNat_natCast, Int.natCast_nonneg, Int.natCast_add, List.length_cons, Nat.sub_self, List.getElem?_nil, killH, List.foldl_nil, List.foldl_cons]
def dvSt1 (y s yn1 yn0 un0 q1 un21 : Int) (p : Int × Int) : St := ⟨0, [(2, .i .u64 y), (8, .i .u64 s), (9, .i .u64 yn1), (10, .i .u64 yn0), (14, .i .u64 un0), (15, .i .u64 q1), (16, .i .u64 p.2), (17, .i .u64 un21), (18, .i .u64 p.1)], []⟩
def dvR1 (y s un0 q1 un21 q : Int) (e : Ex) (s' : St) : Prop := e = .exit 2 ∧ ∃ τ, s' = ⟨0, τ, []⟩ ∧ look τ 2 = .i .u64 y ∧ look τ 8 = .i .u64 s ∧ look τ 14 = .i .u64 un0 ∧ look τ 15 = .i .u64 q1 ∧ look τ 17 = .i .u64 un21 ∧ look τ 18 = .i .u64 q
theorem dv_lp1 {y s yn1 yn0 un32 un1 q1 : Int} (hy : y = yn1 * 4294967296 + yn0) (h0 : 0 ≤ yn0) (h1 : yn0 < 4294967296) (h2 : 2147483648 ≤ yn1) (h3 : yn1 < 4294967296) (hu0 : 0 ≤ un32) (hu : un32 < y) (hn10 : 0 ≤ un1) (hn1 : un1 < 4294967296) :
    ∀ p, dvI y yn1 un32 un1 p → J F X (.lp fn81k1 fn81l1 (dvSt1 y s yn1 yn0 un1 q1 un32 p) (dvR1 y s un1 q1 un32 ((un32 * 4294967296 + un1) / y))) := by
  have hy0 : 0 < y := by omega
  refine lp_rule true (dvSt1 y s yn1 yn0 un1 q1 un32) (dvI y yn1 un32 un1) (fun p => (4294967296 - p.2).toNat) ?_
  rintro ⟨q, rhat⟩ ⟨hq, hr0, hr, hq0, hge⟩
  simp only at hq hr0 hr hq0 hge
  have hqb := dv_bound hy h0 h1 h2 h3 hu0 hu hn10 hn1 hq hr0 hq0
  have key : (decide (q ≥ 4294967296) || decide (IntKind.wrap .u64 (q * yn0) > IntKind.wrap .u64 (IntKind.wrap .u64 (4294967296 * rhat) + un1))) = decide (q * y > un32 * 4294967296 + un1) := by
    rw [Bool.eq_iff_iff, Bool.or_eq_true, decide_eq_true_eq, decide_eq_true_eq, decide_eq_true_eq]
    have hd := dv_test (un1 := un1) hy hq
    by_cases hbig : q ≥ 4294967296
    · have : 4294967296 * y ≤ q * y := Int.mul_le_mul_of_nonneg_right hbig (by omega)
      omega
    · have e1 : IntKind.wrap .u64 (q * yn0) = q * yn0 := by
        rw [wu64]
        have a1 : q * yn0 ≤ 4294967295 * yn0 := Int.mul_le_mul_of_nonneg_right (by omega) h0
        have a2 : 0 ≤ q * yn0 := Int.mul_nonneg hq0 h0
        omega
      rw [e1, ← hd]; simp only [wu64]; omega
  unfold fn81l1
  by_cases ht : q * y > un32 * 4294967296 + un1
  · rw [decide_eq_true ht] at key
    have hle := dv_top hy0 ht
    have hD0 : 0 ≤ (un32 * 4294967296 + un1) / y := Int.ediv_nonneg (by omega) (by omega)
    have hw : IntKind.wrap .u64 (rhat + yn1) = rhat + yn1 := by rw [wu64]; omega
    have hwq : IntKind.wrap .u64 (q - 1) = q - 1 := by rw [wu64]; omega
    have hq' : (q - 1) * yn1 + (rhat + yn1) = un32 := by rw [Int.sub_mul]; omega
    repeat' (first | with_reducible refine seqK_n ?_ | with_reducible refine wp_seq' ?_ | with_reducible refine wp_blk' ?_ | with_reducible refine wp_skip' ?_ | with_reducible refine wp_ret' ?_ | with_reducible refine wp_exit' ?_ | with_reducible refine seqK_e ?_ | with_reducible refine seqK_r ?_ | with_reducible refine blkK_n ?_ | with_reducible refine blkK_e ?_ | with_reducible refine blkK_x (by decide) ?_ | with_reducible refine blkK_r ?_ | with_reducible refine wp_regc' ?_ | with_reducible exact he_nil | with_reducible exact imp_x | with_reducible exact imp_y | with_reducible refine imp_t ?_ | with_reducible refine imp_f ?_ | ((with_reducible apply wpr_fin); (focus rfl)) | ((with_reducible apply he_ok); (focus rfl)) | ((with_reducible apply ht_ok); (focus rfl)) | ((first | (with_reducible first | apply sc_endv | apply sc_any | apply wp_cnd' | apply fin_ret | apply fin_nrm | apply ht_ok) | ((with_reducible apply wpr_run1); (focus rfl))); (focus (simp only [runR, evT, O.isCall, R.still, O.isPure, O.touch, O.evP, A.ev, put, envOf, look_hd, look_tl, look_nil, V.tid, V.ids, idL, V.good, V.cells, hget_z, hget_s, hget_nil, ldV, part, binV, intBin, isShift, unV, cellsIf, eqs, eq1, setPart, elems, frz, frL, frR, frsR, frsV, frsL, R.dsts, kill, V.isSc, V.scal, optA, V.asNat, resEv, Res.ev, seqK, blkK, cEnv, cV, cL, cLs, cId, posOf, cBlks, cBlk, oldBlk, List.length_cons, List.length_nil, Nat.reduceAdd, Nat.reduceEqDiff, Nat.reduceBEq, Nat.reduceLT, Nat.reduceLeDiff, Nat.reduceSub, Nat.reduceMul, ne_eq, not_false_eq_true, Nat.zero_ne_one, reduceCtorEq, beqD, bltD, bleD, decide_true, decide_false, decide_eq_true_eq, Nat.lt_irrefl, eq_self, Nat.zero_lt_succ, Nat.lt_add_one, Nat.succ_ne_self, List.getElem?_cons_zero, List.getElem?_cons_succ, Option.bind_some, Option.map_some, Option.bind_none, Option.map_none, cond_true, cond_false, Bool.and_true, Bool.true_and, Bool.and_false, Bool.false_and, Bool.or_true, Bool.true_or, Bool.or_false, Bool.false_or, Bool.not_true, Bool.not_false, List.all_cons, List.all_nil, List.map_cons, List.map_nil, List.flatMap_cons, List.flatMap_nil, List.nil_append, List.cons_append, List.append_nil, List.drop_zero, List.drop_succ_cons, List.take_zero, List.take_succ_cons, List.take_nil, List.drop_nil, List.set_cons_zero, List.set_cons_succ, List.replicate, Nat.add_zero, Nat.zero_add, decide_true, decide_false, if_true, if_false, and_self, and_true, true_and, List.length_map, List.getElem?_map, Int.toNat_natCast, Int.natCast_nonneg, Int.natCast_add, List.length_cons, Nat.sub_self, List.getElem?_nil, killH, List.foldl_nil, List.foldl_cons, dvSt1, key, hw, hwq]; first | done | rfl))) | intro hc)
    · refine ⟨rfl, _, rfl, ?_⟩
      have hb := of_decide_eq_true hc
      have hqe : q - 1 = (un32 * 4294967296 + un1) / y := by
        refine dv_end hy0 ?_ hle
        rw [← dv_test (un1 := un1) hy hq']
        have hlt : q - 1 < 4294967296 := by
          by_cases h : q - 1 < 4294967296
          · exact h
          · exfalso
            have h := Int.not_lt.1 h
            have : 4294967296 * yn1 ≤ (q - 1) * yn1 := Int.mul_le_mul_of_nonneg_right h (by omega)
            omega
        have a1 : (q - 1) * yn0 ≤ 4294967295 * yn0 := Int.mul_le_mul_of_nonneg_right (by omega) h0
        omega
      rw [← hqe]
      simp only [runR, evT, O.isCall, R.still, O.isPure, O.touch, O.evP, A.ev, put, envOf, look_hd, look_tl, look_nil, V.tid, V.ids, idL, V.good, V.cells, hget_z, hget_s, hget_nil, ldV, part, binV, intBin, isShift, unV, cellsIf, eqs, eq1, setPart, elems, frz, frL, frR, frsR, frsV, frsL, R.dsts, kill, V.isSc, V.scal, optA, V.asNat, resEv, Res.ev, seqK, blkK, cEnv, cV, cL, cLs, cId, posOf, cBlks, cBlk, oldBlk, List.length_cons, List.length_nil, Nat.reduceAdd, Nat.reduceEqDiff, Nat.reduceBEq, Nat.reduceLT, Nat.reduceLeDiff, Nat.reduceSub, Nat.reduceMul, ne_eq, not_false_eq_true, Nat.zero_ne_one, reduceCtorEq, beqD, bltD, bleD, decide_true, decide_false, decide_eq_true_eq, Nat.lt_irrefl, eq_self, Nat.zero_lt_succ, Nat.lt_add_one, Nat.succ_ne_self, List.getElem?_cons_zero, List.getElem?_cons_succ, Option.bind_some, Option.map_some, Option.bind_none, Option.map_none, cond_true, cond_false, Bool.and_true, Bool.true_and, Bool.and_false, Bool.false_and, Bool.or_true, Bool.true_or, Bool.or_false, Bool.false_or, Bool.not_true, Bool.not_false, List.all_cons, List.all_nil, List.map_cons, List.map_nil, List.flatMap_cons, List.flatMap_nil, List.nil_append, List.cons_append, List.append_nil, List.drop_zero, List.drop_succ_cons, List.take_zero, List.take_succ_cons, List.take_nil, List.drop_nil, List.set_cons_zero, List.set_cons_succ, List.replicate, Nat.add_zero, Nat.zero_add, decide_true, decide_false, if_true, if_false, and_self, and_true, true_and, List.length_map, List.getElem?_map, Int.toNat_natCast, Int.natCast_nonneg, Int.natCast_add, List.length_cons, Nat.sub_self, List.getElem?_nil, killH, List.foldl_nil, List.foldl_cons]
    · have hb := of_decide_eq_false hc
      refine seqK_l ⟨(q - 1, rhat + yn1), ?_, ⟨hq', by omega, by omega, by omega, hle⟩, by omega⟩
      refine canon_0 ?_
      simp only [runR, evT, O.isCall, R.still, O.isPure, O.touch, O.evP, A.ev, put, envOf, look_hd, look_tl, look_nil, V.tid, V.ids, idL, V.good, V.cells, hget_z, hget_s, hget_nil, ldV, part, binV, intBin, isShift, unV, cellsIf, eqs, eq1, setPart, elems, frz, frL, frR, frsR, frsV, frsL, R.dsts, kill, V.isSc, V.scal, optA, V.asNat, resEv, Res.ev, seqK, blkK, cEnv, cV, cL, cLs, cId, posOf, cBlks, cBlk, oldBlk, List.length_cons, List.length_nil, Nat.reduceAdd, Nat.reduceEqDiff, Nat.reduceBEq, Nat.reduceLT, Nat.reduceLeDiff, Nat.reduceSub, Nat.reduceMul, ne_eq, not_false_eq_true, Nat.zero_ne_one, reduceCtorEq, beqD, bltD, bleD, decide_true, decide_false, decide_eq_true_eq, Nat.lt_irrefl, eq_self, Nat.zero_lt_succ, Nat.lt_add_one, Nat.succ_ne_self, List.getElem?_cons_zero, List.getElem?_cons_succ, Option.bind_some, Option.map_some, Option.bind_none, Option.map_none, cond_true, cond_false, Bool.and_true, Bool.true_and, Bool.and_false, Bool.false_and, Bool.or_true, Bool.true_or, Bool.or_false, Bool.false_or, Bool.not_true, Bool.not_false, List.all_cons, List.all_nil, List.map_cons, List.map_nil, List.flatMap_cons, List.flatMap_nil, List.nil_append, List.cons_append, List.append_nil, List.drop_zero, List.drop_succ_cons, List.take_zero, List.take_succ_cons, List.take_nil, List.drop_nil, List.set_cons_zero, List.set_cons_succ, List.replicate, Nat.add_zero, Nat.zero_add, decide_true, decide_false, if_true, if_false, and_self, and_true, true_and, List.length_map, List.getElem?_map, Int.toNat_natCast, Int.natCast_nonneg, Int.natCast_add, List.length_cons, Nat.sub_self, List.getElem?_nil, killH, List.foldl_nil, List.foldl_cons, fn81k1]
  · rw [decide_eq_false ht] at key
    repeat' (first | with_reducible refine seqK_n ?_ | with_reducible refine wp_seq' ?_ | with_reducible refine wp_blk' ?_ | with_reducible refine wp_skip' ?_ | with_reducible refine wp_ret' ?_ | with_reducible refine wp_exit' ?_ | with_reducible refine seqK_e ?_ | with_reducible refine seqK_r ?_ | with_reducible refine blkK_n ?_ | with_reducible refine blkK_e ?_ | with_reducible refine blkK_x (by decide) ?_ | with_reducible refine blkK_r ?_ | with_reducible refine wp_regc' ?_ | with_reducible exact he_nil | with_reducible exact imp_x | with_reducible exact imp_y | with_reducible refine imp_t ?_ | with_reducible refine imp_f ?_ | ((with_reducible apply wpr_fin); (focus rfl)) | ((with_reducible apply he_ok); (focus rfl)) | ((with_reducible apply ht_ok); (focus rfl)) | ((first | (with_reducible first | apply sc_endv | apply sc_any | apply wp_cnd' | apply fin_ret | apply fin_nrm | apply ht_ok) | ((with_reducible apply wpr_run1); (focus rfl))); (focus (simp only [runR, evT, O.isCall, R.still, O.isPure, O.touch, O.evP, A.ev, put, envOf, look_hd, look_tl, look_nil, V.tid, V.ids, idL, V.good, V.cells, hget_z, hget_s, hget_nil, ldV, part, binV, intBin, isShift, unV, cellsIf, eqs, eq1, setPart, elems, frz, frL, frR, frsR, frsV, frsL, R.dsts, kill, V.isSc, V.scal, optA, V.asNat, resEv, Res.ev, seqK, blkK, cEnv, cV, cL, cLs, cId, posOf, cBlks, cBlk, oldBlk, List.length_cons, List.length_nil, Nat.reduceAdd, Nat.reduceEqDiff, Nat.reduceBEq, Nat.reduceLT, Nat.reduceLeDiff, Nat.reduceSub, Nat.reduceMul, ne_eq, not_false_eq_true, Nat.zero_ne_one, reduceCtorEq, beqD, bltD, bleD, decide_true, decide_false, decide_eq_true_eq, Nat.lt_irrefl, eq_self, Nat.zero_lt_succ, Nat.lt_add_one, Nat.succ_ne_self, List.getElem?_cons_zero, List.getElem?_cons_succ, Option.bind_some, Option.map_some, Option.bind_none, Option.map_none, cond_true, cond_false, Bool.and_true, Bool.true_and, Bool.and_false, Bool.false_and, Bool.or_true, Bool.true_or, Bool.or_false, Bool.false_or, Bool.not_true, Bool.not_false, List.all_cons, List.all_nil, List.map_cons, List.map_nil, List.flatMap_cons, List.flatMap_nil, List.nil_append, List.cons_append, List.append_nil, List.drop_zero, List.drop_succ_cons, List.take_zero, List.take_succ_cons, List.take_nil, List.drop_nil, List.set_cons_zero, List.set_cons_succ, List.replicate, Nat.add_zero, Nat.zero_add, decide_true, decide_false, if_true, if_false, and_self, and_true, true_and, List.length_map, List.getElem?_map, Int.toNat_natCast, Int.natCast_nonneg, Int.natCast_add, List.length_cons, Nat.sub_self, List.getElem?_nil, killH, List.foldl_nil, List.foldl_cons, dvSt1, key]; first | done | rfl))) | intro hc)
    refine ⟨rfl, _, rfl, ?_⟩
    rw [← dv_end hy0 ht hge]
    simp only [runR, evT, O.isCall, R.still, O.isPure, O.touch, O.evP, A.ev, put, envOf, look_hd, look_tl, look_nil, V.tid, V.ids, idL, V.good, V.cells, hget_z, hget_s, hget_nil, ldV, part, binV, intBin, isShift, unV, cellsIf, eqs, eq1, setPart, elems, frz, frL, frR, frsR, frsV, frsL, R.dsts, kill, V.isSc, V.scal, optA, V.asNat, resEv, Res.ev, seqK, blkK, cEnv, cV, cL, cLs, cId, posOf, cBlks, cBlk, oldBlk, List.length_cons, List.length_nil, Nat.reduceAdd, Nat.reduceEqDiff, Nat.reduceBEq, Nat.reduceLT, Nat.reduceLeDiff, Nat.reduceSub, Nat.reduceMul, ne_eq, not_false_eq_true, Nat.zero_ne_one, reduceCtorEq, beqD, bltD, bleD, decide_true, decide_false, decide_eq_true_eq, Nat.lt_irrefl, eq_self, Nat.zero_lt_succ, Nat.lt_add_one, Nat.succ_ne_self, List.getElem?_cons_zero, List.getElem?_cons_succ, Option.bind_some, Option.map_some, Option.bind_none, Option.map_none, cond_true, cond_false, Bool.and_true, Bool.true_and, Bool.and_false, Bool.false_and, Bool.or_true, Bool.true_or, Bool.or_false, Bool.false_or, Bool.not_true, Bool.not_false, List.all_cons, List.all_nil, List.map_cons, List.map_nil, List.flatMap_cons, List.flatMap_nil, List.nil_append, List.cons_append, List.append_nil, List.drop_zero, List.drop_succ_cons, List.take_zero, List.take_succ_cons, List.take_nil, List.drop_nil, List.set_cons_zero, List.set_cons_succ, List.replicate, Nat.add_zero, Nat.zero_add, decide_true, decide_false, if_true, if_false, and_self, and_true, true_and, List.length_map, List.getElem?_map, Int.toNat_natCast, Int.natCast_nonneg, Int.natCast_add, List.length_cons, Nat.sub_self, List.getElem?_nil, killH, List.foldl_nil, List.foldl_cons]
/-- What the shifts make. -/
theorem div_pre (yn hn ln L : Nat) (hy : hn < yn) (hl1 : ln < 18446744073709551616) (hL1 : 1 ≤ L) (hL2 : L ≤ 64) (hL3 : 2 ^ (L - 1) ≤ yn) (hL4 : yn < 2 ^ L) :
    ∃ (s T : Nat) (HT AI Y U V0 : Int), (64 : Int) - (L : Int) = (s : Int) ∧ IntKind.wrap .u64 (s : Int) = (s : Int) ∧ IntKind.wrap .u64 (64 - (s : Int)) = (L : Int) ∧ 0 < T ∧ (2 : Int) ^ min s (IntKind.bits .u64) = (T : Int) ∧
      IntKind.wrap .u64 ((yn : Int) * 2 ^ min s (IntKind.bits .u64)) = Y ∧ IntKind.wrap .u64 ((hn : Int) * 2 ^ min s (IntKind.bits .u64)) = HT ∧ IntKind.wrap .u64 ((ln : Int) * 2 ^ min s (IntKind.bits .u64)) = V0 ∧
      ((ln : Int)).fdiv (2 ^ min L (IntKind.bits .u64)) = AI ∧ IntKind.wrap .u64 ((BitVec.ofInt (IntKind.bits .u64) HT ||| BitVec.ofInt (IntKind.bits .u64) AI).toNat : Int) = U ∧
      0 ≤ U ∧ U < Y ∧ 9223372036854775808 ≤ Y ∧ Y < 18446744073709551616 ∧ 0 ≤ V0 ∧ V0 < 18446744073709551616 ∧ U * 18446744073709551616 + V0 = ((hn : Int) * 18446744073709551616 + (ln : Int)) * (T : Int) ∧ Y = (yn : Int) * (T : Int) := by
  obtain ⟨s, hs⟩ : ∃ s : Nat, s = 64 - L := ⟨_, rfl⟩
  obtain ⟨T, hT⟩ : ∃ T : Nat, T = 2 ^ s := ⟨_, rfl⟩
  obtain ⟨T', hT'⟩ : ∃ T' : Nat, T' = 2 ^ L := ⟨_, rfl⟩
  have hTT : T * T' = 18446744073709551616 := by rw [hT, hT', ← Nat.pow_add, show s + L = 64 by omega]
  have hT0 : 0 < T := by rw [hT]; exact Nat.two_pow_pos s
  have hT'0 : 0 < T' := by rw [hT']; exact Nat.two_pow_pos L
  have hhalf : 9223372036854775808 ≤ yn * T := by
    have e2 : 2 ^ (L - 1) * T = 9223372036854775808 := by rw [hT, ← Nat.pow_add, show L - 1 + s = 63 by omega]
    have := Nat.mul_le_mul_right T hL3
    omega
  have hfull : yn * T < 18446744073709551616 := by
    have := Nat.mul_lt_mul_of_pos_right hL4 hT0
    rw [← hT', Nat.mul_comm T' T, hTT] at this
    exact this
  obtain ⟨A0, hA⟩ : ∃ A0, A0 = ln / T' := ⟨_, rfl⟩
  obtain ⟨Z, hZ⟩ : ∃ Z, Z = ln % T' * T := ⟨_, rfl⟩
  have hlT : ln * T = 18446744073709551616 * A0 + Z := by
    have h1 := Nat.div_add_mod ln T'
    conv => lhs; rw [← h1]
    rw [Nat.add_mul, Nat.mul_comm T' (ln / T'), Nat.mul_assoc, Nat.mul_comm T' T, hTT, Nat.mul_comm (ln / T'), hA, hZ]
  have hZ1 : Z < 18446744073709551616 := by
    have := Nat.mul_lt_mul_of_pos_right (Nat.mod_lt ln hT'0) hT0
    rw [Nat.mul_comm T' T, hTT, ← hZ] at this
    exact this
  have hAT : A0 < T := by
    rw [hA, Nat.div_lt_iff_lt_mul hT'0, hTT]; omega
  have hhn : hn * T + T ≤ yn * T := by
    have := Nat.mul_le_mul_right T (show hn + 1 ≤ yn by omega)
    rw [Nat.add_mul, Nat.one_mul] at this
    exact this
  have p2 : ∀ n : Nat, (2 : Int) ^ n = ((2 ^ n : Nat) : Int) := fun n => by simp
  have ms : min s (IntKind.bits .u64) = s := Nat.min_eq_left (by show s ≤ 64; omega)
  have mL : min L (IntKind.bits .u64) = L := Nat.min_eq_left (by show L ≤ 64; omega)
  refine ⟨s, T, ((hn * T : Nat) : Int), (A0 : Int), ((yn * T : Nat) : Int), ((hn * T + A0 : Nat) : Int), (Z : Int), by omega, by rw [wu64]; omega, by rw [wu64]; omega, hT0, by rw [ms, p2, hT], ?_, ?_, ?_, ?_, ?_, by omega, by omega, by omega, by omega, by omega, by omega, ?_, by simp⟩
  · rw [ms, p2, ← hT, ← Int.natCast_mul, wu64]; omega
  · rw [ms, p2, ← hT, ← Int.natCast_mul, wu64]; omega
  · rw [ms, p2, ← hT, ← Int.natCast_mul, wu64, hlT]; omega
  · rw [mL, p2, ← hT', hA, Int.fdiv_eq_ediv_of_nonneg _ (by omega), Int.natCast_ediv]
  · have := or_add s hn A0 (by rw [← hT]; exact hAT) (by rw [← hT, Nat.mul_comm]; omega)
    rw [← hT, Nat.mul_comm T hn] at this
    exact this
  · have e3 : (hn * 18446744073709551616 + ln) * T = hn * T * 18446744073709551616 + ln * T := by
      rw [Nat.add_mul, Nat.mul_right_comm]
    have e4 : ((hn : Int) * 18446744073709551616 + (ln : Int)) * (T : Int) = (((hn * 18446744073709551616 + ln) * T : Nat) : Int) := by
      rw [Int.natCast_mul, Int.natCast_add, Int.natCast_mul]; rfl
    rw [e4, e3, hlT]
    generalize hn * T = X at *
    omega
theorem dig {N D : Int} (hN : 0 ≤ N) (hN1 : N < 18446744073709551616) (hD : 0 < D) :
    IntKind.wrap .u64 (N.tdiv D) = N / D ∧ IntKind.wrap .u64 (N - IntKind.wrap .u64 (N / D * D)) = N % D ∧ N / D * D + N % D = N ∧ 0 ≤ N / D ∧ 0 ≤ N % D ∧ N % D < D := by
  have hd := Int.emod_add_mul_ediv N D
  have hd1 := Int.emod_lt_of_pos N hD
  have hd2 := Int.emod_nonneg N (by omega : D ≠ 0)
  have hd3 : 0 ≤ N / D := Int.ediv_nonneg hN (by omega)
  have hd4 : N / D ≤ N := Int.ediv_le_self _ hN
  have hcom : N / D * D = D * (N / D) := Int.mul_comm _ _
  have hd5 : 0 ≤ N / D * D := Int.mul_nonneg hd3 (by omega)
  refine ⟨?_, ?_, by omega, hd3, hd2, hd1⟩
  · rw [Int.tdiv_eq_ediv_of_nonneg hN, wu64]; omega
  · simp only [wu64]; omega
/-- The first guess is at least the digit. -/
theorem guess {Y D yn0 N un : Int} (hYs : Y = D * 4294967296 + yn0) (h0 : 0 ≤ yn0) (hD : 0 < D) (hN0 : 0 ≤ N) (hun1 : un < 4294967296) : (N * 4294967296 + un) / Y ≤ N / D := by
  have hd := Int.emod_add_mul_ediv N D
  have hd1 := Int.emod_lt_of_pos N hD
  have hd3 : 0 ≤ N / D := Int.ediv_nonneg hN0 (by omega)
  have hcom : N / D * D = D * (N / D) := Int.mul_comm _ _
  have : (N * 4294967296 + un) / Y < N / D + 1 := Int.ediv_lt_of_lt_mul (by omega) (by
    have a0 : (N / D + 1) * (D * 4294967296 + yn0) = (N / D * D + D) * 4294967296 + (N / D + 1) * yn0 := by
      rw [Int.mul_add, ← Int.mul_assoc, Int.add_mul, Int.one_mul]
    rw [← hYs] at a0
    have a2 : 0 ≤ (N / D + 1) * yn0 := Int.mul_nonneg (by omega) h0
    omega)
  omega
theorem dstep {Y U V1 : Int} (hY : 0 < Y) (hY1 : Y < 18446744073709551616) (hU0 : 0 ≤ U) (hU : U < Y) (hV : 0 ≤ V1) (hV1 : V1 < 4294967296) :
    IntKind.wrap .u64 (IntKind.wrap .u64 (IntKind.wrap .u64 (U * 4294967296) + V1) - IntKind.wrap .u64 ((U * 4294967296 + V1) / Y * Y)) = (U * 4294967296 + V1) % Y ∧ 0 ≤ (U * 4294967296 + V1) % Y ∧ (U * 4294967296 + V1) % Y < Y ∧ 0 ≤ (U * 4294967296 + V1) / Y ∧ (U * 4294967296 + V1) / Y < 4294967296 := by
  have hm := Int.emod_add_mul_ediv (U * 4294967296 + V1) Y
  have hlt := Int.emod_lt_of_pos (U * 4294967296 + V1) hY
  have hge := Int.emod_nonneg (U * 4294967296 + V1) (by omega : Y ≠ 0)
  have h3 : 0 ≤ (U * 4294967296 + V1) / Y := Int.ediv_nonneg (by omega) (by omega)
  have h4 : (U * 4294967296 + V1) / Y < 4294967296 := Int.ediv_lt_of_lt_mul hY (by omega)
  have hqy : (U * 4294967296 + V1) / Y * Y = Y * ((U * 4294967296 + V1) / Y) := Int.mul_comm _ _
  generalize (U * 4294967296 + V1) / Y = q1 at *
  generalize (U * 4294967296 + V1) % Y = R at *
  refine ⟨?_, hge, hlt, h3, h4⟩
  simp only [wu64]; omega
theorem div_fin {U V0 Y M : Int} {yn T : Int} (hT : 0 < T) (hyn : 0 < yn) (hY : Y = yn * T) (hY0 : 0 < Y) (hM : U * 18446744073709551616 + V0 = M * T) (hV : 0 ≤ V0)
    {q1 R q0 R0 : Int} (e1 : (U * 4294967296 + V0 / 4294967296) / Y = q1) (e2 : (U * 4294967296 + V0 / 4294967296) % Y = R) (e3 : (R * 4294967296 + V0 % 4294967296) / Y = q0) (e4 : (R * 4294967296 + V0 % 4294967296) % Y = R0) (h1 : 0 ≤ q1) (h2 : q1 < 4294967296) (h3 : 0 ≤ q0) (h4 : q0 < 4294967296) :
    IntKind.wrap .u64 (IntKind.wrap .u64 (q1 * 4294967296) + q0) = M / yn ∧ R0 / T = M % yn := by
  have hV2 : (U * 4294967296 + V0 / 4294967296) * 4294967296 + V0 % 4294967296 = U * 18446744073709551616 + V0 := by omega
  obtain ⟨t1, t2⟩ := two_digits (a := U) (b := V0 / 4294967296) (c := V0 % 4294967296) hY0 (by omega)
  obtain ⟨d1, d2⟩ := scaled_div (M := M) hT hyn
  rw [e1, e2, e3, hV2, hM, hY, d1] at t1
  rw [e2, e4, hV2, hM, hY] at t2
  refine ⟨?_, by rw [t2]; exact d2⟩
  rw [← t1]; simp only [wu64]; omega
theorem dvb {Y : Int} (hY0 : 9223372036854775808 ≤ Y) (hY1 : Y < 18446744073709551616) :
    Y = Y / 4294967296 * 4294967296 + Y % 4294967296 ∧ 2147483648 ≤ Y / 4294967296 ∧ Y / 4294967296 < 4294967296 ∧ 0 ≤ Y % 4294967296 ∧ Y % 4294967296 < 4294967296 ∧ 0 < Y / 4294967296 ∧ 0 < Y ∧ ¬ Y / 4294967296 = 0 := by omega
theorem dvb2 {Y : Int} (hY0 : 0 ≤ Y) (hY1 : Y < 18446744073709551616) : 0 ≤ Y / 4294967296 ∧ Y / 4294967296 < 4294967296 ∧ 0 ≤ Y % 4294967296 ∧ Y % 4294967296 < 4294967296 := by omega
theorem Div64_0 (lo y : Int) (hl : 0 ≤ lo) (hl1 : lo < 18446744073709551616) (hy0 : 0 < y) (hy1 : y < 18446744073709551616) :
    Ret F XS 81 [.i .u64 0, .i .u64 lo, .i .u64 y] (.tu [.i .u64 (lo / y), .i .u64 (lo % y)]) := by
  have f1 : (y == 0) = false := by simp; omega
  have f2 : ¬ y ≤ 0 := by omega
  have f4 : ¬ y = 0 := by omega
  have f5 : ((0 : Int) == 0) = true := rfl
  refine fn_rule true rfl rfl ?_
  unfold fn81b
  repeat' (first | with_reducible refine seqK_n ?_ | with_reducible refine wp_seq' ?_ | with_reducible refine wp_blk' ?_ | with_reducible refine wp_skip' ?_ | with_reducible refine wp_ret' ?_ | with_reducible refine wp_exit' ?_ | with_reducible refine seqK_e ?_ | with_reducible refine seqK_r ?_ | with_reducible refine blkK_n ?_ | with_reducible refine blkK_e ?_ | with_reducible refine blkK_x (by decide) ?_ | with_reducible refine blkK_r ?_ | with_reducible refine wp_regc' ?_ | with_reducible exact he_nil | with_reducible exact imp_x | with_reducible exact imp_y | with_reducible refine imp_t ?_ | with_reducible refine imp_f ?_ | ((with_reducible apply wpr_fin); (focus rfl)) | ((with_reducible apply he_ok); (focus rfl)) | ((with_reducible apply ht_ok); (focus rfl)) | ((first | (with_reducible first | apply sc_endv | apply sc_any | apply wp_cnd' | apply fin_ret | apply fin_nrm | apply ht_ok) | ((with_reducible apply wpr_run1); (focus rfl))); (focus (simp only [runR, evT, O.isCall, R.still, O.isPure, O.touch, O.evP, A.ev, put, envOf, look_hd, look_tl, look_nil, V.tid, V.ids, idL, V.good, V.cells, hget_z, hget_s, hget_nil, ldV, part, binV, intBin, isShift, unV, cellsIf, eqs, eq1, setPart, elems, frz, frL, frR, frsR, frsV, frsL, R.dsts, kill, V.isSc, V.scal, optA, V.asNat, resEv, Res.ev, seqK, blkK, cEnv, cV, cL, cLs, cId, posOf, cBlks, cBlk, oldBlk, List.length_cons, List.length_nil, Nat.reduceAdd, Nat.reduceEqDiff, Nat.reduceBEq, Nat.reduceLT, Nat.reduceLeDiff, Nat.reduceSub, Nat.reduceMul, ne_eq, not_false_eq_true, Nat.zero_ne_one, reduceCtorEq, beqD, bltD, bleD, decide_true, decide_false, decide_eq_true_eq, Nat.lt_irrefl, eq_self, Nat.zero_lt_succ, Nat.lt_add_one, Nat.succ_ne_self, List.getElem?_cons_zero, List.getElem?_cons_succ, Option.bind_some, Option.map_some, Option.bind_none, Option.map_none, cond_true, cond_false, Bool.and_true, Bool.true_and, Bool.and_false, Bool.false_and, Bool.or_true, Bool.true_or, Bool.or_false, Bool.false_or, Bool.not_true, Bool.not_false, List.all_cons, List.all_nil, List.map_cons, List.map_nil, List.flatMap_cons, List.flatMap_nil, List.nil_append, List.cons_append, List.append_nil, List.drop_zero, List.drop_succ_cons, List.take_zero, List.take_succ_cons, List.take_nil, List.drop_nil, List.set_cons_zero, List.set_cons_succ, List.replicate, Nat.add_zero, Nat.zero_add, decide_true, decide_false, if_true, if_false, and_self, and_true, true_and, List.length_map, List.getElem?_map, Int.toNat_natCast, Int.natCast_nonneg, Int.natCast_add, List.length_cons, Nat.sub_self, List.getElem?_nil, killH, List.foldl_nil, List.foldl_cons, f1, f2, f4, f5]; first | done | rfl))) | intro hc)
  have h1 := Int.ediv_le_self y hl
  have h2 : 0 ≤ lo / y := Int.ediv_nonneg hl (by omega)
  have e1 : IntKind.wrap .u64 (lo.tdiv y) = lo / y := by
    rw [wu64, Int.tdiv_eq_ediv_of_nonneg hl]; omega
  have e2 : lo.tmod y = lo % y := Int.tmod_eq_emod_of_nonneg hl
  rw [e1, e2]
  exact ⟨rfl, rfl⟩
theorem Div64_1 (hn ln yn : Nat) (hz : hn ≠ 0) (hl1 : ln < 18446744073709551616) (hy : hn < yn) (hy1 : yn < 18446744073709551616) :
    Ret F XS 81 [.i .u64 hn, .i .u64 ln, .i .u64 yn] (.tu [.i .u64 (((hn : Int) * 18446744073709551616 + ln) / (yn : Int)), .i .u64 (((hn : Int) * 18446744073709551616 + ln) % (yn : Int))]) := by
  have f1 : ((yn : Int) == 0) = false := by simp; omega
  have f2 : ¬ (yn : Int) ≤ hn := by omega
  have f3 : ((hn : Int) == 0) = false := by simp; omega
  have hb := bitLen_spec yn (by omega) (by omega)
  have hLZ := LZ_ok (yn : Int) (by omega) (by omega)
  rw [Int.toNat_natCast] at hLZ
  generalize Lib.bitLen yn = L at *
  obtain ⟨hL1, hL2, hL3, hL4⟩ := hb
  obtain ⟨s, T, HT, AI, Y, U, V0, es, f4, f6, hT0, eT, ey, eh, el, er, hor, hU0, hUY, hY0, hY1, hV0, hV1, hM, hYT⟩ := div_pre yn hn ln L hy hl1 hL1 hL2 hL3 hL4
  rw [es] at hLZ
  clear hL3 hL4 hL2 hL1
  have f5 : ¬ (s : Int) < 0 := by omega
  have f7 : ¬ (L : Int) < 0 := by omega
  have f8 : ¬ (32 : Int) < 0 := by decide
  have g1 : Y.fdiv (2 ^ min (Int.toNat 32) (IntKind.bits .u64)) = Y / 4294967296 := Int.fdiv_eq_ediv_of_nonneg _ (by decide)
  have g2 := and_lo Y (Int.le_trans (by decide) hY0) hY1
  have g3 : V0.fdiv (2 ^ min (Int.toNat 32) (IntKind.bits .u64)) = V0 / 4294967296 := Int.fdiv_eq_ediv_of_nonneg _ (by decide)
  have g4 := and_lo V0 hV0 hV1
  obtain ⟨hYs, hD1, hD2, hE0, hE1, hDp, hYp, g5⟩ := dvb hY0 hY1
  obtain ⟨hV3, hV4, hV5, hV6⟩ := dvb2 hV0 hV1
  have hU1 : U < 18446744073709551616 := Int.lt_trans hUY hY1
  obtain ⟨g6, g7, a1, a2, a3, a4⟩ := dig hU0 hU1 hDp
  have hI1 : dvI Y (Y / 4294967296) U (V0 / 4294967296) (U / (Y / 4294967296), U % (Y / 4294967296)) := ⟨a1, a3, Int.lt_trans a4 hD2, a2, guess hYs hE0 hDp hU0 hV4⟩
  refine fn_rule true rfl rfl ?_
  unfold fn81b
  repeat' (first | with_reducible refine seqK_n ?_ | with_reducible refine wp_seq' ?_ | with_reducible refine wp_blk' ?_ | with_reducible refine wp_skip' ?_ | with_reducible refine wp_ret' ?_ | with_reducible refine wp_exit' ?_ | with_reducible refine seqK_e ?_ | with_reducible refine seqK_r ?_ | with_reducible refine blkK_n ?_ | with_reducible refine blkK_e ?_ | with_reducible refine blkK_x (by decide) ?_ | with_reducible refine blkK_r ?_ | with_reducible refine wp_regc' ?_ | with_reducible exact he_nil | with_reducible exact imp_x | with_reducible exact imp_y | with_reducible refine imp_t ?_ | with_reducible refine imp_f ?_ | ((with_reducible apply wpr_fin); (focus rfl)) | ((with_reducible apply he_ok); (focus rfl)) | ((with_reducible apply ht_ok); (focus rfl)) | ((with_reducible apply wpr_callv); (focus (simp only [runR, evT, O.isCall, R.still, O.isPure, O.touch, O.evP, A.ev, put, envOf, look_hd, look_tl, look_nil, V.tid, V.ids, idL, V.good, V.cells, hget_z, hget_s, hget_nil, ldV, part, binV, intBin, isShift, unV, cellsIf, eqs, eq1, setPart, elems, frz, frL, frR, frsR, frsV, frsL, R.dsts, kill, V.isSc, V.scal, optA, V.asNat, resEv, Res.ev, seqK, blkK, cEnv, cV, cL, cLs, cId, posOf, cBlks, cBlk, oldBlk, List.length_cons, List.length_nil, Nat.reduceAdd, Nat.reduceEqDiff, Nat.reduceBEq, Nat.reduceLT, Nat.reduceLeDiff, Nat.reduceSub, Nat.reduceMul, ne_eq, not_false_eq_true, Nat.zero_ne_one, reduceCtorEq, beqD, bltD, bleD, decide_true, decide_false, decide_eq_true_eq, Nat.lt_irrefl, eq_self, Nat.zero_lt_succ, Nat.lt_add_one, Nat.succ_ne_self, List.getElem?_cons_zero, List.getElem?_cons_succ, Option.bind_some, Option.map_some, Option.bind_none, Option.map_none, cond_true, cond_false, Bool.and_true, Bool.true_and, Bool.and_false, Bool.false_and, Bool.or_true, Bool.true_or, Bool.or_false, Bool.false_or, Bool.not_true, Bool.not_false, List.all_cons, List.all_nil, List.map_cons, List.map_nil, List.flatMap_cons, List.flatMap_nil, List.nil_append, List.cons_append, List.append_nil, List.drop_zero, List.drop_succ_cons, List.take_zero, List.take_succ_cons, List.take_nil, List.drop_nil, List.set_cons_zero, List.set_cons_succ, List.replicate, Nat.add_zero, Nat.zero_add, decide_true, decide_false, if_true, if_false, and_self, and_true, true_and, List.length_map, List.getElem?_map, Int.toNat_natCast, Int.natCast_nonneg, Int.natCast_add, List.length_cons, Nat.sub_self, List.getElem?_nil, killH, List.foldl_nil, List.foldl_cons, f1, f2, f3, f4, f5, f6, f7, f8, ey, eh, el, er, hor, g1, g2, g3, g4, g5, g6, g7]; first | done | rfl)); (focus (first | exact hLZ))) | ((first | (with_reducible first | apply sc_endv | apply sc_any | apply wp_cnd' | apply fin_ret | apply fin_nrm | apply ht_ok) | ((with_reducible apply wpr_run1); (focus rfl))); (focus (simp only [runR, evT, O.isCall, R.still, O.isPure, O.touch, O.evP, A.ev, put, envOf, look_hd, look_tl, look_nil, V.tid, V.ids, idL, V.good, V.cells, hget_z, hget_s, hget_nil, ldV, part, binV, intBin, isShift, unV, cellsIf, eqs, eq1, setPart, elems, frz, frL, frR, frsR, frsV, frsL, R.dsts, kill, V.isSc, V.scal, optA, V.asNat, resEv, Res.ev, seqK, blkK, cEnv, cV, cL, cLs, cId, posOf, cBlks, cBlk, oldBlk, List.length_cons, List.length_nil, Nat.reduceAdd, Nat.reduceEqDiff, Nat.reduceBEq, Nat.reduceLT, Nat.reduceLeDiff, Nat.reduceSub, Nat.reduceMul, ne_eq, not_false_eq_true, Nat.zero_ne_one, reduceCtorEq, beqD, bltD, bleD, decide_true, decide_false, decide_eq_true_eq, Nat.lt_irrefl, eq_self, Nat.zero_lt_succ, Nat.lt_add_one, Nat.succ_ne_self, List.getElem?_cons_zero, List.getElem?_cons_succ, Option.bind_some, Option.map_some, Option.bind_none, Option.map_none, cond_true, cond_false, Bool.and_true, Bool.true_and, Bool.and_false, Bool.false_and, Bool.or_true, Bool.true_or, Bool.or_false, Bool.false_or, Bool.not_true, Bool.not_false, List.all_cons, List.all_nil, List.map_cons, List.map_nil, List.flatMap_cons, List.flatMap_nil, List.nil_append, List.cons_append, List.append_nil, List.drop_zero, List.drop_succ_cons, List.take_zero, List.take_succ_cons, List.take_nil, List.drop_nil, List.set_cons_zero, List.set_cons_succ, List.replicate, Nat.add_zero, Nat.zero_add, decide_true, decide_false, if_true, if_false, and_self, and_true, true_and, List.length_map, List.getElem?_map, Int.toNat_natCast, Int.natCast_nonneg, Int.natCast_add, List.length_cons, Nat.sub_self, List.getElem?_nil, killH, List.foldl_nil, List.foldl_cons, f1, f2, f3, f4, f5, f6, f7, f8, ey, eh, el, er, hor, g1, g2, g3, g4, g5, g6, g7]; first | done | rfl))) | intro hc)
  refine wp_loopc _ (canon_0 (by simp only [runR, evT, O.isCall, R.still, O.isPure, O.touch, O.evP, A.ev, put, envOf, look_hd, look_tl, look_nil, V.tid, V.ids, idL, V.good, V.cells, hget_z, hget_s, hget_nil, ldV, part, binV, intBin, isShift, unV, cellsIf, eqs, eq1, setPart, elems, frz, frL, frR, frsR, frsV, frsL, R.dsts, kill, V.isSc, V.scal, optA, V.asNat, resEv, Res.ev, seqK, blkK, cEnv, cV, cL, cLs, cId, posOf, cBlks, cBlk, oldBlk, List.length_cons, List.length_nil, Nat.reduceAdd, Nat.reduceEqDiff, Nat.reduceBEq, Nat.reduceLT, Nat.reduceLeDiff, Nat.reduceSub, Nat.reduceMul, ne_eq, not_false_eq_true, Nat.zero_ne_one, reduceCtorEq, beqD, bltD, bleD, decide_true, decide_false, decide_eq_true_eq, Nat.lt_irrefl, eq_self, Nat.zero_lt_succ, Nat.lt_add_one, Nat.succ_ne_self, List.getElem?_cons_zero, List.getElem?_cons_succ, Option.bind_some, Option.map_some, Option.bind_none, Option.map_none, cond_true, cond_false, Bool.and_true, Bool.true_and, Bool.and_false, Bool.false_and, Bool.or_true, Bool.true_or, Bool.or_false, Bool.false_or, Bool.not_true, Bool.not_false, List.all_cons, List.all_nil, List.map_cons, List.map_nil, List.flatMap_cons, List.flatMap_nil, List.nil_append, List.cons_append, List.append_nil, List.drop_zero, List.drop_succ_cons, List.take_zero, List.take_succ_cons, List.take_nil, List.drop_nil, List.set_cons_zero, List.set_cons_succ, List.replicate, Nat.add_zero, Nat.zero_add, decide_true, decide_false, if_true, if_false, and_self, and_true, true_and, List.length_map, List.getElem?_map, Int.toNat_natCast, Int.natCast_nonneg, Int.natCast_add, List.length_cons, Nat.sub_self, List.getElem?_nil, killH, List.foldl_nil, List.foldl_cons, fn81k0])) (dv_lp0 hYs hE0 hE1 hD1 hD2 hU0 hUY hV3 hV4 (s := (s : Int)) (un0 := V0 % 4294967296) _ hI1) ?_
  rintro e s' ⟨rfl, τ, rfl, l2, l8, l9, l10, l11, l13, l14, l15⟩
  obtain ⟨k1, b1, b2, b3, b4⟩ := dstep hYp hY1 hU0 hUY hV3 hV4
  generalize hq1 : (U * 4294967296 + V0 / 4294967296) / Y = q1 at *
  generalize hR : (U * 4294967296 + V0 / 4294967296) % Y = Rm at *
  have hR1 : Rm < 18446744073709551616 := Int.lt_trans b2 hY1
  obtain ⟨k2, k3, c1, c2, c3, c4⟩ := dig b1 hR1 hDp
  have hI2 : dvI Y (Y / 4294967296) Rm (V0 % 4294967296) (Rm / (Y / 4294967296), Rm % (Y / 4294967296)) := ⟨c1, c3, Int.lt_trans c4 hD2, c2, guess hYs hE0 hDp b1 hV6⟩
  repeat' (first | with_reducible refine seqK_n ?_ | with_reducible refine wp_seq' ?_ | with_reducible refine wp_blk' ?_ | with_reducible refine wp_skip' ?_ | with_reducible refine wp_ret' ?_ | with_reducible refine wp_exit' ?_ | with_reducible refine seqK_e ?_ | with_reducible refine seqK_r ?_ | with_reducible refine blkK_n ?_ | with_reducible refine blkK_e ?_ | with_reducible refine blkK_x (by decide) ?_ | with_reducible refine blkK_r ?_ | with_reducible refine wp_regc' ?_ | with_reducible exact he_nil | with_reducible exact imp_x | with_reducible exact imp_y | with_reducible refine imp_t ?_ | with_reducible refine imp_f ?_ | ((with_reducible apply wpr_fin); (focus rfl)) | ((with_reducible apply he_ok); (focus rfl)) | ((with_reducible apply ht_ok); (focus rfl)) | ((first | (with_reducible first | apply sc_endv | apply sc_any | apply wp_cnd' | apply fin_ret | apply fin_nrm | apply ht_ok) | ((with_reducible apply wpr_run1); (focus rfl))); (focus (simp only [runR, evT, O.isCall, R.still, O.isPure, O.touch, O.evP, A.ev, put, envOf, look_hd, look_tl, look_nil, V.tid, V.ids, idL, V.good, V.cells, hget_z, hget_s, hget_nil, ldV, part, binV, intBin, isShift, unV, cellsIf, eqs, eq1, setPart, elems, frz, frL, frR, frsR, frsV, frsL, R.dsts, kill, V.isSc, V.scal, optA, V.asNat, resEv, Res.ev, seqK, blkK, cEnv, cV, cL, cLs, cId, posOf, cBlks, cBlk, oldBlk, List.length_cons, List.length_nil, Nat.reduceAdd, Nat.reduceEqDiff, Nat.reduceBEq, Nat.reduceLT, Nat.reduceLeDiff, Nat.reduceSub, Nat.reduceMul, ne_eq, not_false_eq_true, Nat.zero_ne_one, reduceCtorEq, beqD, bltD, bleD, decide_true, decide_false, decide_eq_true_eq, Nat.lt_irrefl, eq_self, Nat.zero_lt_succ, Nat.lt_add_one, Nat.succ_ne_self, List.getElem?_cons_zero, List.getElem?_cons_succ, Option.bind_some, Option.map_some, Option.bind_none, Option.map_none, cond_true, cond_false, Bool.and_true, Bool.true_and, Bool.and_false, Bool.false_and, Bool.or_true, Bool.true_or, Bool.or_false, Bool.false_or, Bool.not_true, Bool.not_false, List.all_cons, List.all_nil, List.map_cons, List.map_nil, List.flatMap_cons, List.flatMap_nil, List.nil_append, List.cons_append, List.append_nil, List.drop_zero, List.drop_succ_cons, List.take_zero, List.take_succ_cons, List.take_nil, List.drop_nil, List.set_cons_zero, List.set_cons_succ, List.replicate, Nat.add_zero, Nat.zero_add, decide_true, decide_false, if_true, if_false, and_self, and_true, true_and, List.length_map, List.getElem?_map, Int.toNat_natCast, Int.natCast_nonneg, Int.natCast_add, List.length_cons, Nat.sub_self, List.getElem?_nil, killH, List.foldl_nil, List.foldl_cons, l2, l8, l9, l10, l11, l13, l14, l15, k1, k2, k3, g5]; first | done | rfl))) | intro hc)
  refine wp_loopc _ (canon_0 (by simp only [runR, evT, O.isCall, R.still, O.isPure, O.touch, O.evP, A.ev, put, envOf, look_hd, look_tl, look_nil, V.tid, V.ids, idL, V.good, V.cells, hget_z, hget_s, hget_nil, ldV, part, binV, intBin, isShift, unV, cellsIf, eqs, eq1, setPart, elems, frz, frL, frR, frsR, frsV, frsL, R.dsts, kill, V.isSc, V.scal, optA, V.asNat, resEv, Res.ev, seqK, blkK, cEnv, cV, cL, cLs, cId, posOf, cBlks, cBlk, oldBlk, List.length_cons, List.length_nil, Nat.reduceAdd, Nat.reduceEqDiff, Nat.reduceBEq, Nat.reduceLT, Nat.reduceLeDiff, Nat.reduceSub, Nat.reduceMul, ne_eq, not_false_eq_true, Nat.zero_ne_one, reduceCtorEq, beqD, bltD, bleD, decide_true, decide_false, decide_eq_true_eq, Nat.lt_irrefl, eq_self, Nat.zero_lt_succ, Nat.lt_add_one, Nat.succ_ne_self, List.getElem?_cons_zero, List.getElem?_cons_succ, Option.bind_some, Option.map_some, Option.bind_none, Option.map_none, cond_true, cond_false, Bool.and_true, Bool.true_and, Bool.and_false, Bool.false_and, Bool.or_true, Bool.true_or, Bool.or_false, Bool.false_or, Bool.not_true, Bool.not_false, List.all_cons, List.all_nil, List.map_cons, List.map_nil, List.flatMap_cons, List.flatMap_nil, List.nil_append, List.cons_append, List.append_nil, List.drop_zero, List.drop_succ_cons, List.take_zero, List.take_succ_cons, List.take_nil, List.drop_nil, List.set_cons_zero, List.set_cons_succ, List.replicate, Nat.add_zero, Nat.zero_add, decide_true, decide_false, if_true, if_false, and_self, and_true, true_and, List.length_map, List.getElem?_map, Int.toNat_natCast, Int.natCast_nonneg, Int.natCast_add, List.length_cons, Nat.sub_self, List.getElem?_nil, killH, List.foldl_nil, List.foldl_cons, fn81k1, l2, l8, l9, l10, l14, l15])) (dv_lp1 hYs hE0 hE1 hD1 hD2 b1 b2 hV5 hV6 (s := (s : Int)) (q1 := q1) _ hI2) ?_
  clear l2 l8 l9 l10 l11 l13 l14 l15
  rintro e s' ⟨rfl, τ, rfl, l2, l8, l14, l15, l17, l18⟩
  obtain ⟨n2, c1, c2, c3, c4⟩ := dstep hYp hY1 b1 b2 hV5 hV6
  generalize hq0 : (Rm * 4294967296 + V0 % 4294967296) / Y = q0 at *
  generalize hR0 : (Rm * 4294967296 + V0 % 4294967296) % Y = R0 at *
  obtain ⟨n1, n3⟩ := div_fin (by omega) (by omega) hYT hYp hM hV0 hq1 hR hq0 hR0 b3 b4 c3 c4
  repeat' (first | with_reducible refine seqK_n ?_ | with_reducible refine wp_seq' ?_ | with_reducible refine wp_blk' ?_ | with_reducible refine wp_skip' ?_ | with_reducible refine wp_ret' ?_ | with_reducible refine wp_exit' ?_ | with_reducible refine seqK_e ?_ | with_reducible refine seqK_r ?_ | with_reducible refine blkK_n ?_ | with_reducible refine blkK_e ?_ | with_reducible refine blkK_x (by decide) ?_ | with_reducible refine blkK_r ?_ | with_reducible refine wp_regc' ?_ | with_reducible exact he_nil | with_reducible exact imp_x | with_reducible exact imp_y | with_reducible refine imp_t ?_ | with_reducible refine imp_f ?_ | ((with_reducible apply wpr_fin); (focus rfl)) | ((with_reducible apply he_ok); (focus rfl)) | ((with_reducible apply ht_ok); (focus rfl)) | ((first | (with_reducible first | apply sc_endv | apply sc_any | apply wp_cnd' | apply fin_ret | apply fin_nrm | apply ht_ok) | ((with_reducible apply wpr_run1); (focus rfl))); (focus (simp only [runR, evT, O.isCall, R.still, O.isPure, O.touch, O.evP, A.ev, put, envOf, look_hd, look_tl, look_nil, V.tid, V.ids, idL, V.good, V.cells, hget_z, hget_s, hget_nil, ldV, part, binV, intBin, isShift, unV, cellsIf, eqs, eq1, setPart, elems, frz, frL, frR, frsR, frsV, frsL, R.dsts, kill, V.isSc, V.scal, optA, V.asNat, resEv, Res.ev, seqK, blkK, cEnv, cV, cL, cLs, cId, posOf, cBlks, cBlk, oldBlk, List.length_cons, List.length_nil, Nat.reduceAdd, Nat.reduceEqDiff, Nat.reduceBEq, Nat.reduceLT, Nat.reduceLeDiff, Nat.reduceSub, Nat.reduceMul, ne_eq, not_false_eq_true, Nat.zero_ne_one, reduceCtorEq, beqD, bltD, bleD, decide_true, decide_false, decide_eq_true_eq, Nat.lt_irrefl, eq_self, Nat.zero_lt_succ, Nat.lt_add_one, Nat.succ_ne_self, List.getElem?_cons_zero, List.getElem?_cons_succ, Option.bind_some, Option.map_some, Option.bind_none, Option.map_none, cond_true, cond_false, Bool.and_true, Bool.true_and, Bool.and_false, Bool.false_and, Bool.or_true, Bool.true_or, Bool.or_false, Bool.false_or, Bool.not_true, Bool.not_false, List.all_cons, List.all_nil, List.map_cons, List.map_nil, List.flatMap_cons, List.flatMap_nil, List.nil_append, List.cons_append, List.append_nil, List.drop_zero, List.drop_succ_cons, List.take_zero, List.take_succ_cons, List.take_nil, List.drop_nil, List.set_cons_zero, List.set_cons_succ, List.replicate, Nat.add_zero, Nat.zero_add, decide_true, decide_false, if_true, if_false, and_self, and_true, true_and, List.length_map, List.getElem?_map, Int.toNat_natCast, Int.natCast_nonneg, Int.natCast_add, List.length_cons, Nat.sub_self, List.getElem?_nil, killH, List.foldl_nil, List.foldl_cons, l2, l8, l14, l15, l17, l18, f5]; first | done | rfl))) | intro hc)
  rw [n1, n2, eT, Int.fdiv_eq_ediv_of_nonneg _ (by omega), n3]
  exact ⟨rfl, rfl⟩
theorem Div64_ok (hi lo y : Int) (hh : 0 ≤ hi) (hl : 0 ≤ lo) (hl1 : lo < 18446744073709551616) (hy : hi < y) (hy1 : y < 18446744073709551616) :
    Ret F XS 81 [.i .u64 hi, .i .u64 lo, .i .u64 y] (.tu [.i .u64 ((hi * 18446744073709551616 + lo) / y), .i .u64 ((hi * 18446744073709551616 + lo) % y)]) := by
  by_cases hz : hi = 0
  · subst hz
    have := Div64_0 lo y hl hl1 hy hy1
    rwa [show (0 : Int) * 18446744073709551616 + lo = lo by omega]
  · obtain ⟨yn, rfl⟩ := Int.eq_ofNat_of_zero_le (show 0 ≤ y by omega)
    obtain ⟨hn, rfl⟩ := Int.eq_ofNat_of_zero_le hh
    obtain ⟨ln, rfl⟩ := Int.eq_ofNat_of_zero_le hl
    exact Div64_1 hn ln yn (by omega) (by omega) (by omega) (by omega)
end Go.Proofs.YtgamkmgdbfeigaaM
