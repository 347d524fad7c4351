/- The row of the law NumOrders: for every input that can be read the call returns true, and each argument reads as it did. No condition. Written by this session's own program wip/ext.py. -/
import Derived.Test.YtngiipodkbfokaaRows
import Derived.Test.YtngiipodkbfokaaPAllx21
import Derived.Test.YtngiipodkbfokaaPureNumOrders
import Derived.Test.YtngiipodkbfokaaOpen
import Derived.WalkKit
import Derived.ProofKit
import Derived.OpenShut
import Derived.ShutString
import Derived.ChangeOld
import Derived.Below
import Derived.SizedLaws
namespace Go.Proofs.Ytngiipodkbfokaa.numOrders
open Go.ChangeShapes Go.WideShapes Go.ChangeAt Go.RowKit Go.Proofs.YtngiipodkbfokaaOpen Go.Proofs.Ytngiipodkbfokaa.PAll Go.Proofs.YtngiipodkbfokaaW.PrintWords Go.Proofs.YtngiipodkbfokaaW.PrintLast
open Go.ChangeMaps (open_string shut_string)
set_option linter.unusedVariables false
theorem own : ownKnob Try.prog.godebug = none := by kernel_rfl
theorem laidOut : laidOutB Try.prog = true := by kernel_rfl
theorem opens42 : Opens Try.prog 42 k42 wf42 := Opens.iso (Opens.array (L := [(41, 0), (41, 1)]) (z := 2) Try.underlying42 (by first | rfl | kernel_rfl) (by kernel_rfl) (OpensP.cons (o := 0) (s := 1) (o2 := 1) (Opens.int Try.underlying41) (by kernel_rfl) rfl (OpensP.one (o := 1) (s := 1) (e := 2) (Opens.int Try.underlying41) (by kernel_rfl) rfl))) (fun x : S42 => (x.f0, x.f1)) (fun y => (⟨y.1, y.2⟩ : S42)) (fun _ => rfl)
set_option maxRecDepth 100000 in
theorem lifted (os : Os) (started : os.Started) (H : Type) (enc : TypeId × Value → H) :
    ReturnsInHanded {} Try.checked os 10 .any (Rows.numOrdersSpec.pre6 enc Try.prog Try.f10 Rows.numOrdersRow.domain false) (Rows.numOrdersSpec.post enc Try.prog Try.f10 false true false false) := by
  refine returnsInHanded_of_change_sized (C := Try.checked) own started (by kernel_rfl) Try.func10
    (ChangeSpec.witness6 (enc := enc) (C := Try.checked) false ⟨#[], #[.agg #[.int .i16 0, .int .i16 0], .agg #[.int .i16 0, .int .i16 0], .agg #[.int .i16 0, .int .i16 0]], []⟩ 8 (by kernel_rfl) (by kernel_rfl) (by kernel_rfl) (by kernel_rfl)) ?_
  intro W base args ds gs before hval0 hW hcnd hsz0 _
  have hsz : (DataW.weightsEach Try.prog (Try.f10.params.toList ++ Rows.numOrdersSpec.plain.varTypes Try.prog) (ds ++ gs)).all (· ≤ reachBytes) = true := hsz0
  have hval : ∀ (j : Nat) t v, Try.f10.params[j]? = some t → args[j]? = some v → Value.okWide Try.prog W .any base t v := hval0
  have hW' := hW
  obtain ⟨p, q, hA0, hV, rfl, hfz, hnd⟩ := hW
  have hA : DataW.TrodAll enc Try.prog W 0 (fun _ => true) true Try.f10.params.toList args.toList ds p := hA0
  rw [Try.params10] at hA hval hsz
  obtain ⟨v0, vs0, d0, ds0, p0, q0, hargs, rfl, rfl, h0, r0⟩ := trodAll_cons hA
  obtain ⟨v1, vs1, d1, ds1, p1, q1, rfl, rfl, rfl, h1, r1⟩ := trodAll_cons r0
  obtain ⟨v2, vs2, d2, ds2, p2, q2, rfl, rfl, rfl, h2, r2⟩ := trodAll_cons r1
  obtain ⟨rfl, rfl, rfl⟩ := trodAll_nil r2
  obtain rfl : args = #[v0, v1, v2] := by cases args; simp_all
  obtain ⟨rfl, rfl⟩ := trodVars_none hV
  have k0 := h0
  have lt0 : ∀ x ∈ p0, x.block < W.heap.size := by obtain ⟨m, hm⟩ := k0; exact DataW.trod_lt m _ _ _ hm
  have z0 : ∀ n ∈ d0.weights Try.prog 42, n ≤ reachBytes := fun n hn => by have := List.all_eq_true.1 hsz _ (DataW.weights_mem_each (j := 0) rfl rfl n hn); simpa using this
  obtain ⟨cs0, rfl⟩ := okWide_agg_array Try.underlying42 (hval 0 42 v0 rfl rfl)
  obtain ⟨fu0, hf0⟩ := h0
  obtain ⟨x0, hK0, hw0⟩ := opens42 _ enc W fu0 _ _ _ hf0 z0
  have o0 := k42_open hK0
  have e0 := o0
  have e0' : cs0 = #[.int .i16 x0.f0, .int .i16 x0.f1] := by apply Array.toList_inj.1; exact e0
  subst e0'
  obtain ⟨hw0_0, hw0_1⟩ := hw0
  have k1 := h1
  have lt1 : ∀ x ∈ p1, x.block < W.heap.size := by obtain ⟨m, hm⟩ := k1; exact DataW.trod_lt m _ _ _ hm
  have z1 : ∀ n ∈ d1.weights Try.prog 42, n ≤ reachBytes := fun n hn => by have := List.all_eq_true.1 hsz _ (DataW.weights_mem_each (j := 1) rfl rfl n hn); simpa using this
  obtain ⟨cs1, rfl⟩ := okWide_agg_array Try.underlying42 (hval 1 42 v1 rfl rfl)
  obtain ⟨fu1, hf1⟩ := h1
  obtain ⟨x1, hK1, hw1⟩ := opens42 _ enc W fu1 _ _ _ hf1 z1
  have o1 := k42_open hK1
  have e1 := o1
  have e1' : cs1 = #[.int .i16 x1.f0, .int .i16 x1.f1] := by apply Array.toList_inj.1; exact e1
  subst e1'
  obtain ⟨hw1_0, hw1_1⟩ := hw1
  have k2 := h2
  have lt2 : ∀ x ∈ p2, x.block < W.heap.size := by obtain ⟨m, hm⟩ := k2; exact DataW.trod_lt m _ _ _ hm
  have z2 : ∀ n ∈ d2.weights Try.prog 42, n ≤ reachBytes := fun n hn => by have := List.all_eq_true.1 hsz _ (DataW.weights_mem_each (j := 2) rfl rfl n hn); simpa using this
  obtain ⟨cs2, rfl⟩ := okWide_agg_array Try.underlying42 (hval 2 42 v2 rfl rfl)
  obtain ⟨fu2, hf2⟩ := h2
  obtain ⟨x2, hK2, hw2⟩ := opens42 _ enc W fu2 _ _ _ hf2 z2
  have o2 := k42_open hK2
  have e2 := o2
  have e2' : cs2 = #[.int .i16 x2.f0, .int .i16 x2.f1] := by apply Array.toList_inj.1; exact e2
  subst e2'
  obtain ⟨hw2_0, hw2_1⟩ := hw2
  clear hA0 hval0 hsz0 hsz
  obtain ⟨k, hk⟩ := Pure.NumOrders x0.f0 x0.f1 x1.f0 x1.f1 x2.f0 x2.f1 hw0_0 hw0_1 hw1_0 hw1_1 hw2_0 hw2_1
  refine (mapsheetslaw01_NumOrders.calls k x0.f0 x0.f1 x1.f0 x1.f1 x2.f0 x2.f1 true W hk).mono fun e W' ⟨he, bel0⟩ => ?_
  have bel : Below W.heap.size W W' := bel0
  subst he
  exact ⟨_, rfl, _, _, _, [], _, [], hW', trodAll_mk1 (shut_bool Try.underlying4 _), (trodAll_cons_mk (Below.trod laidOut (by kernel_rfl) (of_decide_eq_true (by kernel_rfl)) k0 bel lt0) (trodAll_cons_mk (Below.trod laidOut (by kernel_rfl) (of_decide_eq_true (by kernel_rfl)) k1 bel lt1) (trodAll_cons_mk (Below.trod laidOut (by kernel_rfl) (of_decide_eq_true (by kernel_rfl)) k2 bel lt2) trodAll_mk0))), rfl, bel.frame _, fun h => by cases h⟩
theorem over : Rows.numOrdersRow.holds Try.pinned (OpenSpec.ofChange Rows.numOrdersSpec) :=
  OpenClaim.holds_of_wide 10 Try.f10 rfl rfl rfl rfl rfl rfl rfl ⟨rfl, rfl, rfl, rfl, rfl⟩ rfl rfl rfl rfl rfl (by kernel_rfl) Try.func10 (by kernel_rfl)
    (of_decide_eq_true (by kernel_rfl)) (by unfold Func.isWrapper; first | (rw [if_pos (by decide +kernel)]; kernel_rfl) | (rw [if_neg (by decide +kernel)]; exact ⟨rfl, rfl⟩))
    (fun os started H enc _ => lifted os started H enc)
theorem proved : Rows.NumOrdersSaid := over
#print axioms proved
end Go.Proofs.Ytngiipodkbfokaa.numOrders
namespace Go.Proofs.Ytngiipodkbfokaa
/-- The row, under a short name, for the claim. -/
theorem numOrders_holds : Rows.NumOrdersSaid := numOrders.proved
end Go.Proofs.Ytngiipodkbfokaa
