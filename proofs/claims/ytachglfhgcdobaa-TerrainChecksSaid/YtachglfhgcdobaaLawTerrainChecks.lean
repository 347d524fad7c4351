/- The row of the law TerrainChecks: for every input that can be read the call returns true, and each argument reads as it did. No condition. Written by this session's own program wip/ext.py. -/
import Derived.Test.YtachglfhgcdobaaPAllxwf
import Derived.Test.YtachglfhgcdobaaRows
import Derived.Test.YtachglfhgcdobaaPAllx15
import Derived.Test.YtachglfhgcdobaaPureTerrainChecks
import Derived.Test.YtachglfhgcdobaaOpen
import Derived.WalkKit
import Derived.ProofKit
import Derived.OpenShut
import Derived.ShutString
import Derived.ChangeOld
import Derived.Below
import Derived.SizedLaws
namespace Go.Proofs.Ytachglfhgcdobaa.terrainChecks
open Go.ChangeShapes Go.WideShapes Go.ChangeAt Go.RowKit Go.Proofs.YtachglfhgcdobaaOpen Go.Proofs.Ytachglfhgcdobaa.PAll Go.Proofs.YtachglfhgcdobaaW.PrintWords Go.Proofs.YtachglfhgcdobaaW.PrintLast
open Go.ChangeMaps (open_string shut_string)
set_option linter.unusedVariables false
theorem own : ownKnob Try.prog.godebug = none := by kernel_rfl
theorem laidOut : laidOutB Try.prog = true := by kernel_rfl
theorem opens23 : Opens Try.prog 23 k23 wf23 := Opens.iso (Opens.struct (L := [(3, 0), (3, 1)]) (e := 2) Try.underlying23 (by first | rfl | kernel_rfl) (by kernel_rfl) (OpensP.cons (o := 0) (s := 1) (o2 := 1) (Opens.int Try.underlying3) (by kernel_rfl) rfl (OpensP.one (o := 1) (s := 1) (e := 2) (Opens.int Try.underlying3) (by kernel_rfl) rfl))) (fun x : S23 => (x.f0, x.f1)) (fun y => (⟨y.1, y.2⟩ : S23)) (fun _ => rfl)
theorem opens26 : Opens Try.prog 26 k26 wf26 := Opens.iso (Opens.struct (L := [(23, 0), (3, 2), (3, 3), (3, 4), (24, 5)]) (e := 6) Try.underlying26 (by first | rfl | kernel_rfl) (by kernel_rfl) (OpensP.cons (o := 0) (s := 2) (o2 := 2) opens23 (by kernel_rfl) rfl (OpensP.cons (o := 2) (s := 1) (o2 := 3) (Opens.int Try.underlying3) (by kernel_rfl) rfl (OpensP.cons (o := 3) (s := 1) (o2 := 4) (Opens.int Try.underlying3) (by kernel_rfl) rfl (OpensP.cons (o := 4) (s := 1) (o2 := 5) (Opens.int Try.underlying3) (by kernel_rfl) rfl (OpensP.one (o := 5) (s := 1) (e := 6) (Opens.slice (B := 8) Try.underlying24 (Opens.int Try.underlying3) (by kernel_rfl) (by kernel_rfl)) (by kernel_rfl) rfl)))))) (fun x : S26 => (x.f0, x.f1, x.f2, x.f3, x.f4)) (fun y => (⟨y.1, y.2.1, y.2.2.1, y.2.2.2.1, y.2.2.2.2⟩ : S26)) (fun _ => rfl)
set_option maxRecDepth 100000 in
theorem lifted (os : Os) (started : os.Started) (H : Type) (enc : TypeId × Value → H) :
    ReturnsInHanded {} Try.checked os 3 .any (Rows.terrainChecksSpec.pre6 enc Try.prog Try.f3 Rows.terrainChecksRow.domain false) (Rows.terrainChecksSpec.post enc Try.prog Try.f3 false true false false) := by
  refine returnsInHanded_of_change_sized (C := Try.checked) own started (by kernel_rfl) Try.func3
    (ChangeSpec.witness6 (enc := enc) (C := Try.checked) false ⟨#[], #[.agg #[.int .i64 0, .int .i64 0, .int .i64 0, .int .i64 0, .int .i64 0, .slice none 0 0], .int .i64 0, .int .i64 0], []⟩ 8 (by kernel_rfl) (by kernel_rfl) (by kernel_rfl) (by kernel_rfl)) ?_
  intro W base args ds gs before hval0 hW hcnd hsz0 _
  have hsz : (DataW.weightsEach Try.prog (Try.f3.params.toList ++ Rows.terrainChecksSpec.plain.varTypes Try.prog) (ds ++ gs)).all (· ≤ reachBytes) = true := hsz0
  have hval : ∀ (j : Nat) t v, Try.f3.params[j]? = some t → args[j]? = some v → Value.okWide Try.prog W .any base t v := hval0
  have hW' := hW
  obtain ⟨p, q, hA0, hV, rfl, hfz, hnd⟩ := hW
  have hA : DataW.TrodAll enc Try.prog W 0 (fun _ => true) true Try.f3.params.toList args.toList ds p := hA0
  rw [Try.params3] at hA hval hsz
  obtain ⟨v0, vs0, d0, ds0, p0, q0, hargs, rfl, rfl, h0, r0⟩ := trodAll_cons hA
  obtain ⟨v1, vs1, d1, ds1, p1, q1, rfl, rfl, rfl, h1, r1⟩ := trodAll_cons r0
  obtain ⟨v2, vs2, d2, ds2, p2, q2, rfl, rfl, rfl, h2, r2⟩ := trodAll_cons r1
  obtain ⟨rfl, rfl, rfl⟩ := trodAll_nil r2
  obtain rfl : args = #[v0, v1, v2] := by cases args; simp_all
  obtain ⟨rfl, rfl⟩ := trodVars_none hV
  have k0 := h0
  have lt0 : ∀ x ∈ p0, x.block < W.heap.size := by obtain ⟨m, hm⟩ := k0; exact DataW.trod_lt m _ _ _ hm
  have z0 : ∀ n ∈ d0.weights Try.prog 26, n ≤ reachBytes := fun n hn => by have := List.all_eq_true.1 hsz _ (DataW.weights_mem_each (j := 0) rfl rfl n hn); simpa using this
  obtain ⟨cs0, rfl⟩ := okWide_agg_struct Try.underlying26 (hval 0 26 v0 rfl rfl)
  obtain ⟨fu0, hf0⟩ := h0
  obtain ⟨x0, hK0, hw0⟩ := opens26 _ enc W fu0 _ _ _ hf0 z0
  have o0 := k26_open hK0
  obtain ⟨A0_5, c0_5, e0, hl0_5, hC0_5⟩ := o0
  have e0' : cs0 = #[.int .i64 x0.f0.f0, .int .i64 x0.f0.f1, .int .i64 x0.f1, .int .i64 x0.f2, .int .i64 x0.f3, .slice A0_5 x0.f4.length c0_5] := by apply Array.toList_inj.1; exact e0
  subst e0'
  obtain ⟨⟨hw0_0_0, hw0_0_1⟩, hw0_1, hw0_2, hw0_3, hw0_4⟩ := hw0
  have k1 := h1
  have lt1 : ∀ x ∈ p1, x.block < W.heap.size := by obtain ⟨m, hm⟩ := k1; exact DataW.trod_lt m _ _ _ hm
  have z1 : ∀ n ∈ d1.weights Try.prog 3, n ≤ reachBytes := fun n hn => by have := List.all_eq_true.1 hsz _ (DataW.weights_mem_each (j := 1) rfl rfl n hn); simpa using this
  obtain ⟨a1, rfl, rfl, rfl, w1⟩ := open_int Try.underlying3 (hval 1 3 v1 rfl rfl) h1
  have k2 := h2
  have lt2 : ∀ x ∈ p2, x.block < W.heap.size := by obtain ⟨m, hm⟩ := k2; exact DataW.trod_lt m _ _ _ hm
  have z2 : ∀ n ∈ d2.weights Try.prog 3, n ≤ reachBytes := fun n hn => by have := List.all_eq_true.1 hsz _ (DataW.weights_mem_each (j := 2) rfl rfl n hn); simpa using this
  obtain ⟨a2, rfl, rfl, rfl, w2⟩ := open_int Try.underlying3 (hval 2 3 v2 rfl rfl) h2
  clear hA0 hval0 hsz0 hsz
  obtain ⟨k, hk⟩ := Pure.TerrainChecks x0.f0.f0 x0.f0.f1 x0.f1 x0.f2 x0.f3 x0.f4 a1 a2 hw0_0_0 hw0_0_1 hw0_1 hw0_2 hw0_3 hw0_4.1 hw0_4.2 w1 w2
  refine (mapsheetslaw43_TerrainChecks.calls k x0.f0.f0 x0.f0.f1 x0.f1 x0.f2 x0.f3 _ _ x0.f4 a1 a2 true W hC0_5 hl0_5 hk).mono fun e W' ⟨he, bel0⟩ => ?_
  have bel : Below W.heap.size W W' := bel0
  subst he
  exact ⟨_, rfl, _, _, _, [], _, [], hW', trodAll_mk1 (shut_bool Try.underlying4 _), (trodAll_cons_mk (Below.trod laidOut (by kernel_rfl) (of_decide_eq_true (by kernel_rfl)) k0 bel lt0) (trodAll_cons_mk (Below.trod laidOut (by kernel_rfl) (of_decide_eq_true (by kernel_rfl)) k1 bel lt1) (trodAll_cons_mk (Below.trod laidOut (by kernel_rfl) (of_decide_eq_true (by kernel_rfl)) k2 bel lt2) trodAll_mk0))), rfl, bel.frame _, fun h => by cases h⟩
theorem over : Rows.terrainChecksRow.holds Try.pinned (OpenSpec.ofChange Rows.terrainChecksSpec) :=
  OpenClaim.holds_of_wide 3 Try.f3 rfl rfl rfl rfl rfl rfl rfl ⟨rfl, rfl, rfl, rfl, rfl⟩ rfl rfl rfl rfl rfl (by kernel_rfl) Try.func3 (by kernel_rfl)
    (of_decide_eq_true (by kernel_rfl)) (by unfold Func.isWrapper; first | (rw [if_pos (by decide +kernel)]; kernel_rfl) | (rw [if_neg (by decide +kernel)]; exact ⟨rfl, rfl⟩))
    (fun os started H enc _ => lifted os started H enc)
theorem proved : Rows.TerrainChecksSaid := over
#print axioms proved
end Go.Proofs.Ytachglfhgcdobaa.terrainChecks
namespace Go.Proofs.Ytachglfhgcdobaa
/-- The row, under a short name, for the claim. -/
theorem terrainChecks_holds : Rows.TerrainChecksSaid := terrainChecks.proved
end Go.Proofs.Ytachglfhgcdobaa
