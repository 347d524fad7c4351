-- Written by this session's own program wip/ext.py over the kit's print; not the kit's own print.
import Derived.Test.YtngiipodkbfokaaPAllx0
import Derived.Test.YtngiipodkbfokaaPAllx1
import Derived.Test.YtngiipodkbfokaaPAllx2
import Derived.Test.YtngiipodkbfokaaPAllx4
import Derived.Test.YtngiipodkbfokaaPAllx7
import Derived.Test.YtngiipodkbfokaaPAllx8
import Derived.Test.YtngiipodkbfokaaPAllx10
namespace Go.Proofs.Ytngiipodkbfokaa.PAll
open Go.RowKit Go.Proofs.YtngiipodkbfokaaW.PrintWords Go.Proofs.YtngiipodkbfokaaW.PrintLast Go.Proofs.YtngiipodkbfokaaW.PrintMore
attribute [local go_sem] max2_int min2_int max_two min_two max_three min_three max_four min_four   -- for this text's walks alone
set_option linter.unusedVariables false
set_option linter.unusedSimpArgs false

attribute [local go_sem high] eqA34
/-! ### mapsheetslaw01_awake: function 17 -/
def mapsheetslaw01_awake.f (k : Nat)  : Option (Bool) := (num_Floor.f k (-7) 2).bind fun bt223 => ((num_Ceil.f k (-7) 2).bind fun bt225 => ((num_Round.f k (-5) 2).bind fun bt227 => ((num_MulDiv.f k 1099511627776 1099511627776 1048576).bind fun bt229 => ((num_Make.f k 6 (-4)).bind fun bt231 => ((num_Floor.f k 1 0).bind fun bt235 => (if bt223.1 = (-4) then (if bt223.2 = 0 then (if bt225.1 = (-3) then (if bt225.2 = 0 then (if bt227.1 = (-2) then (if bt227.2 = 0 then (if bt229.1 = 1152921504606846976 then (if bt229.2 = 0 then (if (bt231.1 == (-3) && (bt231.2.1 == 2)) = true then (if bt231.2.2 = 0 then (if bt235.2 = 21 then ((num_Sqrt.f k 24).bind fun t237 => (if t237 = 4 then ((num_Gcd.f k (-12) 18).bind fun t238 => (if t238 = 6 then ((num_Cmp.f k 1 2 2 3).bind fun t239 => (some (t239 == (-1)))) else (none))) else (none))) else (none)) else (none)) else (none)) else (none)) else (none)) else (none)) else (none)) else (none)) else (none)) else (none)) else (none)))))))
theorem mapsheetslaw01_awake.mono : ∀ k, LeO (mapsheetslaw01_awake.f k ) (mapsheetslaw01_awake.f (k + 1) ) := by
  intro  k
  unfold mapsheetslaw01_awake.f
  repeat' first
      | (with_reducible exact num_Ceil.mono _ _ _)
      | (with_reducible exact num_Cmp.mono _ _ _ _ _)
      | (with_reducible exact num_Floor.mono _ _ _)
      | (with_reducible exact num_Gcd.mono _ _ _)
      | (with_reducible exact num_Make.mono _ _ _)
      | (with_reducible exact num_MulDiv.mono _ _ _ _)
      | (with_reducible exact num_Round.mono _ _ _)
      | (with_reducible exact num_Sqrt.mono _ _)
      | (with_reducible exact LeO.refl _)
      | (with_reducible exact LeO.none _)
      | (with_reducible refine LeO.ite ?_ ?_)
      | (with_reducible refine LeO.bind ?_ (fun _ => ?_))
      | exact num_Ceil.mono _ _ _
      | exact num_Cmp.mono _ _ _ _ _
      | exact num_Floor.mono _ _ _
      | exact num_Gcd.mono _ _ _
      | exact num_Make.mono _ _ _
      | exact num_MulDiv.mono _ _ _ _
      | exact num_Round.mono _ _ _
      | exact num_Sqrt.mono _ _
      | exact LeO.none _
      | refine LeO.ite ?_ ?_
      | refine LeO.bind ?_ (fun _ => ?_)
set_option maxHeartbeats 8000000 in
set_option maxRecDepth 100000 in
theorem mapsheetslaw01_awake.calls (k : Nat)  (r : Bool) (w : World) (h : mapsheetslaw01_awake.f k  = some r) :
    Calls Try.prog 17 #[] w fun e w' => e = .returned (.bool r) ∧ Below w.heap.size w w' := by
 have hu34 := Try.underlying34
 have HB := Aside0.mk (Below.refl w.heap.size w)
 have H : ((num_Floor.f k (-7) 2).bind fun bt223 => ((num_Ceil.f k (-7) 2).bind fun bt225 => ((num_Round.f k (-5) 2).bind fun bt227 => ((num_MulDiv.f k 1099511627776 1099511627776 1048576).bind fun bt229 => ((num_Make.f k 6 (-4)).bind fun bt231 => ((num_Floor.f k 1 0).bind fun bt235 => (if bt223.1 = (-4) then (if bt223.2 = 0 then (if bt225.1 = (-3) then (if bt225.2 = 0 then (if bt227.1 = (-2) then (if bt227.2 = 0 then (if bt229.1 = 1152921504606846976 then (if bt229.2 = 0 then (if (bt231.1 == (-3) && (bt231.2.1 == 2)) = true then (if bt231.2.2 = 0 then (if bt235.2 = 21 then ((num_Sqrt.f k 24).bind fun t237 => (if t237 = 4 then ((num_Gcd.f k (-12) 18).bind fun t238 => (if t238 = 6 then ((num_Cmp.f k 1 2 2 3).bind fun t239 => (some (t239 == (-1)))) else (none))) else (none))) else (none)) else (none)) else (none)) else (none)) else (none)) else (none)) else (none)) else (none)) else (none)) else (none)) else (none)))))))) = some r := h
 clear h
 replace H := Option.bind_eq_some_iff.mp H
 obtain ⟨⟨t223, t224⟩, A10, H⟩ := H
 replace H : ((num_Ceil.f k (-7) 2).bind fun bt225 => ((num_Round.f k (-5) 2).bind fun bt227 => ((num_MulDiv.f k 1099511627776 1099511627776 1048576).bind fun bt229 => ((num_Make.f k 6 (-4)).bind fun bt231 => ((num_Floor.f k 1 0).bind fun bt235 => (if t223 = (-4) then (if t224 = 0 then (if bt225.1 = (-3) then (if bt225.2 = 0 then (if bt227.1 = (-2) then (if bt227.2 = 0 then (if bt229.1 = 1152921504606846976 then (if bt229.2 = 0 then (if (bt231.1 == (-3) && (bt231.2.1 == 2)) = true then (if bt231.2.2 = 0 then (if bt235.2 = 21 then ((num_Sqrt.f k 24).bind fun t237 => (if t237 = 4 then ((num_Gcd.f k (-12) 18).bind fun t238 => (if t238 = 6 then ((num_Cmp.f k 1 2 2 3).bind fun t239 => (some (t239 == (-1)))) else (none))) else (none))) else (none)) else (none)) else (none)) else (none)) else (none)) else (none)) else (none)) else (none)) else (none)) else (none)) else (none))))))) = some r := H
 have A1 := Aside0.mk A10
 clear A10
 replace H := Option.bind_eq_some_iff.mp H
 obtain ⟨⟨t225, t226⟩, A20, H⟩ := H
 replace H : ((num_Round.f k (-5) 2).bind fun bt227 => ((num_MulDiv.f k 1099511627776 1099511627776 1048576).bind fun bt229 => ((num_Make.f k 6 (-4)).bind fun bt231 => ((num_Floor.f k 1 0).bind fun bt235 => (if t223 = (-4) then (if t224 = 0 then (if t225 = (-3) then (if t226 = 0 then (if bt227.1 = (-2) then (if bt227.2 = 0 then (if bt229.1 = 1152921504606846976 then (if bt229.2 = 0 then (if (bt231.1 == (-3) && (bt231.2.1 == 2)) = true then (if bt231.2.2 = 0 then (if bt235.2 = 21 then ((num_Sqrt.f k 24).bind fun t237 => (if t237 = 4 then ((num_Gcd.f k (-12) 18).bind fun t238 => (if t238 = 6 then ((num_Cmp.f k 1 2 2 3).bind fun t239 => (some (t239 == (-1)))) else (none))) else (none))) else (none)) else (none)) else (none)) else (none)) else (none)) else (none)) else (none)) else (none)) else (none)) else (none)) else (none)))))) = some r := H
 have A2 := Aside0.mk A20
 clear A20
 replace H := Option.bind_eq_some_iff.mp H
 obtain ⟨⟨t227, t228⟩, A30, H⟩ := H
 replace H : ((num_MulDiv.f k 1099511627776 1099511627776 1048576).bind fun bt229 => ((num_Make.f k 6 (-4)).bind fun bt231 => ((num_Floor.f k 1 0).bind fun bt235 => (if t223 = (-4) then (if t224 = 0 then (if t225 = (-3) then (if t226 = 0 then (if t227 = (-2) then (if t228 = 0 then (if bt229.1 = 1152921504606846976 then (if bt229.2 = 0 then (if (bt231.1 == (-3) && (bt231.2.1 == 2)) = true then (if bt231.2.2 = 0 then (if bt235.2 = 21 then ((num_Sqrt.f k 24).bind fun t237 => (if t237 = 4 then ((num_Gcd.f k (-12) 18).bind fun t238 => (if t238 = 6 then ((num_Cmp.f k 1 2 2 3).bind fun t239 => (some (t239 == (-1)))) else (none))) else (none))) else (none)) else (none)) else (none)) else (none)) else (none)) else (none)) else (none)) else (none)) else (none)) else (none)) else (none))))) = some r := H
 have A3 := Aside0.mk A30
 clear A30
 replace H := Option.bind_eq_some_iff.mp H
 obtain ⟨⟨t229, t230⟩, A40, H⟩ := H
 replace H : ((num_Make.f k 6 (-4)).bind fun bt231 => ((num_Floor.f k 1 0).bind fun bt235 => (if t223 = (-4) then (if t224 = 0 then (if t225 = (-3) then (if t226 = 0 then (if t227 = (-2) then (if t228 = 0 then (if t229 = 1152921504606846976 then (if t230 = 0 then (if (bt231.1 == (-3) && (bt231.2.1 == 2)) = true then (if bt231.2.2 = 0 then (if bt235.2 = 21 then ((num_Sqrt.f k 24).bind fun t237 => (if t237 = 4 then ((num_Gcd.f k (-12) 18).bind fun t238 => (if t238 = 6 then ((num_Cmp.f k 1 2 2 3).bind fun t239 => (some (t239 == (-1)))) else (none))) else (none))) else (none)) else (none)) else (none)) else (none)) else (none)) else (none)) else (none)) else (none)) else (none)) else (none)) else (none)))) = some r := H
 have A4 := Aside0.mk A40
 clear A40
 replace H := Option.bind_eq_some_iff.mp H
 obtain ⟨⟨t231, t232, t233⟩, A50, H⟩ := H
 replace H : ((num_Floor.f k 1 0).bind fun bt235 => (if t223 = (-4) then (if t224 = 0 then (if t225 = (-3) then (if t226 = 0 then (if t227 = (-2) then (if t228 = 0 then (if t229 = 1152921504606846976 then (if t230 = 0 then (if (t231 == (-3) && (t232 == 2)) = true then (if t233 = 0 then (if bt235.2 = 21 then ((num_Sqrt.f k 24).bind fun t237 => (if t237 = 4 then ((num_Gcd.f k (-12) 18).bind fun t238 => (if t238 = 6 then ((num_Cmp.f k 1 2 2 3).bind fun t239 => (some (t239 == (-1)))) else (none))) else (none))) else (none)) else (none)) else (none)) else (none)) else (none)) else (none)) else (none)) else (none)) else (none)) else (none)) else (none))) = some r := H
 have A5 := Aside0.mk A50
 clear A50
 replace H := Option.bind_eq_some_iff.mp H
 obtain ⟨⟨t235, t236⟩, A60, H⟩ := H
 replace H : (if t223 = (-4) then (if t224 = 0 then (if t225 = (-3) then (if t226 = 0 then (if t227 = (-2) then (if t228 = 0 then (if t229 = 1152921504606846976 then (if t230 = 0 then (if (t231 == (-3) && (t232 == 2)) = true then (if t233 = 0 then (if t236 = 21 then ((num_Sqrt.f k 24).bind fun t237 => (if t237 = 4 then ((num_Gcd.f k (-12) 18).bind fun t238 => (if t238 = 6 then ((num_Cmp.f k 1 2 2 3).bind fun t239 => (some (t239 == (-1)))) else (none))) else (none))) else (none)) else (none)) else (none)) else (none)) else (none)) else (none)) else (none)) else (none)) else (none)) else (none)) else (none)) = some r := H
 have A6 := Aside0.mk A60
 clear A60
 by_cases c7 : t223 = (-4)
 ·rw [if_pos c7] at H
  have c7b0 : (t223 == (-4)) = true := beq_iff_eq.mpr c7
  have c7b1 : (t223 != (-4)) = false := bne_eq_false_iff_eq.mpr c7
  clear c7
  by_cases c8 : t224 = 0
  ·rw [if_pos c8] at H
   have c8b0 : (t224 == 0) = true := beq_iff_eq.mpr c8
   have c8b1 : (t224 != 0) = false := bne_eq_false_iff_eq.mpr c8
   clear c8
   by_cases c9 : t225 = (-3)
   ·rw [if_pos c9] at H
    have c9b0 : (t225 == (-3)) = true := beq_iff_eq.mpr c9
    have c9b1 : (t225 != (-3)) = false := bne_eq_false_iff_eq.mpr c9
    clear c9
    by_cases c10 : t226 = 0
    ·rw [if_pos c10] at H
     have c10b0 : (t226 == 0) = true := beq_iff_eq.mpr c10
     have c10b1 : (t226 != 0) = false := bne_eq_false_iff_eq.mpr c10
     clear c10
     by_cases c11 : t227 = (-2)
     ·rw [if_pos c11] at H
      have c11b0 : (t227 == (-2)) = true := beq_iff_eq.mpr c11
      have c11b1 : (t227 != (-2)) = false := bne_eq_false_iff_eq.mpr c11
      clear c11
      by_cases c12 : t228 = 0
      ·rw [if_pos c12] at H
       have c12b0 : (t228 == 0) = true := beq_iff_eq.mpr c12
       have c12b1 : (t228 != 0) = false := bne_eq_false_iff_eq.mpr c12
       clear c12
       by_cases c13 : t229 = 1152921504606846976
       ·rw [if_pos c13] at H
        have c13b0 : (t229 == 1152921504606846976) = true := beq_iff_eq.mpr c13
        have c13b1 : (t229 != 1152921504606846976) = false := bne_eq_false_iff_eq.mpr c13
        clear c13
        by_cases c14 : t230 = 0
        ·rw [if_pos c14] at H
         have c14b0 : (t230 == 0) = true := beq_iff_eq.mpr c14
         have c14b1 : (t230 != 0) = false := bne_eq_false_iff_eq.mpr c14
         clear c14
         by_cases c15 : (t231 == (-3) && (t232 == 2)) = true
         ·rw [if_pos c15] at H
          have c15b0 : (t231 == (-3) && (t232 == 2)) = true := c15
          (try (have c15b1 : decide (t231 = (-3) && (t232 == 2)) = true := by simpa using c15))
          (try (have c15b2 : (t231 == (-3) && (t232 == 2)) = true := by simpa using c15))
          clear c15
          by_cases c16 : t233 = 0
          ·rw [if_pos c16] at H
           have c16b0 : (t233 == 0) = true := beq_iff_eq.mpr c16
           have c16b1 : (t233 != 0) = false := bne_eq_false_iff_eq.mpr c16
           clear c16
           by_cases c17 : t236 = 21
           ·rw [if_pos c17] at H
            have c17b0 : (t236 == 21) = true := beq_iff_eq.mpr c17
            have c17b1 : (t236 != 21) = false := bne_eq_false_iff_eq.mpr c17
            clear c17
            replace H := Option.bind_eq_some_iff.mp H
            obtain ⟨t237, A180, H⟩ := H
            replace H : (if t237 = 4 then ((num_Gcd.f k (-12) 18).bind fun t238 => (if t238 = 6 then ((num_Cmp.f k 1 2 2 3).bind fun t239 => (some (t239 == (-1)))) else (none))) else (none)) = some r := H
            have A18 := Aside0.mk A180
            clear A180
            by_cases c19 : t237 = 4
            ·rw [if_pos c19] at H
             have c19b0 : (t237 == 4) = true := beq_iff_eq.mpr c19
             have c19b1 : (t237 != 4) = false := bne_eq_false_iff_eq.mpr c19
             clear c19
             replace H := Option.bind_eq_some_iff.mp H
             obtain ⟨t238, A200, H⟩ := H
             replace H : (if t238 = 6 then ((num_Cmp.f k 1 2 2 3).bind fun t239 => (some (t239 == (-1)))) else (none)) = some r := H
             have A20 := Aside0.mk A200
             clear A200
             by_cases c21 : t238 = 6
             ·rw [if_pos c21] at H
              have c21b0 : (t238 == 6) = true := beq_iff_eq.mpr c21
              have c21b1 : (t238 != 6) = false := bne_eq_false_iff_eq.mpr c21
              clear c21
              replace H := Option.bind_eq_some_iff.mp H
              obtain ⟨t239, A220, H⟩ := H
              replace H : (some (t239 == (-1))) = some r := H
              have A22 := Aside0.mk A220
              clear A220
              obtain rfl := Option.some.inj H
              go_enter Try.func17, Try.ntmps17
              go_wp2_with (first | ((with_reducible refine gate_callee (f := 11) rfl ?_); refine goesL_ (some 14) rfl rfl Try.func11 (by kernel_rfl) rfl #[.int .i64 (-7), .int .i64 2] rfl (by (try simp only [List.map_toArray, List.map_cons, List.map_nil]); first | done | rfl | (simp only [List.length_drop, List.length_take]; rfl)) ?_; (with_reducible refine (num_Floor.calls k (-7) 2 t223 t224 _ A1.out).mono ?_); rintro e w' ⟨rfl, ⟨nd, rfl⟩⟩; refine ⟨_, rfl, ?_⟩) | ((with_reducible refine gate_callee (f := 12) rfl ?_); refine goesL_ (some 18) rfl rfl Try.func12 (by kernel_rfl) rfl #[.int .i64 (-7), .int .i64 2] rfl (by (try simp only [List.map_toArray, List.map_cons, List.map_nil]); first | done | rfl | (simp only [List.length_drop, List.length_take]; rfl)) ?_; (with_reducible refine (num_Ceil.calls k (-7) 2 t225 t226 _ A2.out).mono ?_); rintro e w' ⟨rfl, ⟨nd, rfl⟩⟩; refine ⟨_, rfl, ?_⟩) | ((with_reducible refine gate_callee (f := 13) rfl ?_); refine goesL_ (some 22) rfl rfl Try.func13 (by kernel_rfl) rfl #[.int .i64 (-5), .int .i64 2] rfl (by (try simp only [List.map_toArray, List.map_cons, List.map_nil]); first | done | rfl | (simp only [List.length_drop, List.length_take]; rfl)) ?_; (with_reducible refine (num_Round.calls k (-5) 2 t227 t228 _ A3.out).mono ?_); rintro e w' ⟨rfl, ⟨nd, rfl⟩⟩; refine ⟨_, rfl, ?_⟩) | ((with_reducible refine gate_callee (f := 20) rfl ?_); refine goesL_ (some 26) rfl rfl Try.func20 (by kernel_rfl) rfl #[.int .i64 1099511627776, .int .i64 1099511627776, .int .i64 1048576] rfl (by (try simp only [List.map_toArray, List.map_cons, List.map_nil]); first | done | rfl | (simp only [List.length_drop, List.length_take]; rfl)) ?_; (with_reducible refine (num_MulDiv.calls k 1099511627776 1099511627776 1048576 t229 t230 _ A4.out).mono ?_); rintro e w' ⟨rfl, ⟨nd, rfl⟩⟩; refine ⟨_, rfl, ?_⟩) | ((with_reducible refine gate_callee (f := 23) rfl ?_); refine goesL_ (some 30) rfl rfl Try.func23 (by kernel_rfl) rfl #[.int .i64 6, .int .i64 (-4)] rfl (by (try simp only [List.map_toArray, List.map_cons, List.map_nil]); first | done | rfl | (simp only [List.length_drop, List.length_take]; rfl)) ?_; (with_reducible refine (num_Make.calls k 6 (-4) t231 t232 t233 _ A5.out).mono ?_); rintro e w23 ⟨rfl, hb⟩; refine ⟨_, rfl, ?_⟩; have n0_ := Aside0.mk (below_step (by repeat (first | (with_reducible first | exact HB.out | apply below_alloc | apply pw_below_drewN | apply below_drew1) | exact HB.out)) hb); clear HB; have HB := n0_; clear n0_; (try clear hb); (try clear hb2); (try clear hk); (try clear hi)) | ((with_reducible refine gate_dst (N := 9) rfl ?_); refine box_event ?hg (N := 9) ?hd (cs := #[.int .i64 0, .int .i64 0]) (t := 34) ?hr ?_; (case hd => rfl); (case hg => rfl); (case hr => first | (go_simp; done) | (go_simp; rfl)); intro gb234 hg w24 hbox hb; have n0_ := Aside0.mk (below_step (by repeat (first | (with_reducible first | exact HB.out | apply below_alloc | apply pw_below_drewN | apply below_drew1) | exact HB.out)) hb); have n1_ := Aside0.mk (hbox); have n2_ := Aside0.mk ((by rw [hg]; exact (below_size (by repeat (first | (with_reducible first | exact HB.out | apply below_alloc | apply pw_below_drewN | apply below_drew1) | exact HB.out))) : w.heap.size ≤ gb234)); have n3_ := Aside0.mk ((by rw [hg]; exact (below_size (by repeat (first | (with_reducible first | exact HB.out | apply below_alloc | apply pw_below_drewN | apply below_drew1) | exact HB.out))) : w.heap.size ≤ gb234)); clear HB; have HB := n0_; have BK234 := n1_; have GW234 := n2_; have GE234 := n3_; clear n0_ n1_ n2_ n3_; clear hb hbox hg; have hcz25_0 : w24.cell? ⟨gb234, 0, none⟩ = some (.int .i64 0) := (blk_cell BK234.out 0).trans rfl; have hcz25_1 : w24.cell? ⟨gb234, 1, none⟩ = some (.int .i64 0) := (blk_cell BK234.out 1).trans rfl; have hfz25_0 := blk_frozen BK234.out 0; have hfz25_1 := blk_frozen BK234.out 1) | ((with_reducible refine gate_callee (f := 11) rfl ?_); refine goesL_ (some 34) rfl rfl Try.func11 (by kernel_rfl) rfl #[.int .i64 1, .int .i64 0] rfl (by (try simp only [List.map_toArray, List.map_cons, List.map_nil]); first | done | rfl | (simp only [List.length_drop, List.length_take]; rfl)) ?_; (with_reducible refine (num_Floor.calls k 1 0 t235 t236 _ A6.out).mono ?_); rintro e w' ⟨rfl, ⟨nd, rfl⟩⟩; refine ⟨_, rfl, ?_⟩) | (go_at_call 22; (with_reducible refine (num_Sqrt.calls k 24 t237 _ A18.out).mono ?_); rintro e w' ⟨rfl, ⟨nd, rfl⟩⟩) | (go_at_call 18; (with_reducible refine (num_Gcd.calls k (-12) 18 t238 _ A20.out).mono ?_); rintro e w' ⟨rfl, ⟨nd, rfl⟩⟩) | (go_at_call 26; (with_reducible refine (num_Cmp.calls k 1 2 2 3 t239 _ A22.out).mono ?_); rintro e w26 ⟨rfl, hb⟩; have n0_ := Aside0.mk (blk_below (g := gb234) (o := .cells #[.int .i64 t231, .int .i64 t232] 34 (0, 0)) (by (with_reducible repeat (first | refine blk_drewN ?_ _ | refine blk_drew ?_ | refine blk_alloc ?_ _)); refine blk_put (cs := #[.int .i64 t231, .int .i64 0]) ?_ 1 _ rfl; (with_reducible repeat (first | refine blk_drewN ?_ _ | refine blk_drew ?_ | refine blk_alloc ?_ _)); refine blk_put (cs := #[.int .i64 0, .int .i64 0]) ?_ 0 _ rfl; (with_reducible repeat (first | refine blk_drewN ?_ _ | refine blk_drew ?_ | refine blk_alloc ?_ _)); exact BK234.out) hb); have n1_ := Aside0.mk (below_step (by repeat (first | (with_reducible first | exact HB.out | apply below_alloc | apply pw_below_drewN | apply below_drew1 | refine below_set ?_ GE234.out) | exact HB.out)) hb); clear BK234; clear HB; have BK234 := n0_; have HB := n1_; clear n0_ n1_; (try clear hb); (try clear hb2); (try clear hk); (try clear hi)))
              go_ret
              exact ⟨by first | rfl | (simp [errW_none, errW_some] <;> rfl) | (simp [*, errW_none, errW_some] <;> rfl), by repeat (first | (with_reducible first | exact HB.out | apply below_alloc | apply pw_below_drewN | apply below_drew1 | refine below_set ?_ GE234.out) | exact HB.out)⟩
             ·rw [if_neg c21] at H
              exact absurd H (by simp)
            ·rw [if_neg c19] at H
             exact absurd H (by simp)
           ·rw [if_neg c17] at H
            exact absurd H (by simp)
          ·rw [if_neg c16] at H
           exact absurd H (by simp)
         ·rw [if_neg c15] at H
          exact absurd H (by simp)
        ·rw [if_neg c14] at H
         exact absurd H (by simp)
       ·rw [if_neg c13] at H
        exact absurd H (by simp)
      ·rw [if_neg c12] at H
       exact absurd H (by simp)
     ·rw [if_neg c11] at H
      exact absurd H (by simp)
    ·rw [if_neg c10] at H
     exact absurd H (by simp)
   ·rw [if_neg c9] at H
    exact absurd H (by simp)
  ·rw [if_neg c8] at H
   exact absurd H (by simp)
 ·rw [if_neg c7] at H
  exact absurd H (by simp)

end Go.Proofs.Ytngiipodkbfokaa.PAll
