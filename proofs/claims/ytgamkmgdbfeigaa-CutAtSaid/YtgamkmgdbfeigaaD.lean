/- How the arguments of the laws are read as data. Written by this session's own program wip/mach/row.py. -/
import Derived.Test.YtgamkmgdbfeigaaM22
import Derived.Test.YtgamkmgdbfeigaaProg
import Derived.ProofKit
namespace Go.Proofs.YtgamkmgdbfeigaaM
open Go Go.RowKit
def en3 : Int → List V := fun n : Int => [.i .i64 n]
def wf3 : Int → Prop := fun n : Int => (Lit.int .i64 n).wf = true
theorem op3 : Opens Try.prog 3 1 en3 wf3 := Opens.int (k := .i64) Try.underlying3
def en23 : (Int × Int) → List V := fun x : (Int × Int) => en3 ((x).1) ++ (en3 ((x).2))
def wf23 : (Int × Int) → Prop := fun x : (Int × Int) => wf3 ((x).1) ∧ wf3 ((x).2)
theorem op23 : Opens Try.prog 23 2 en23 wf23 := Opens.iso (Opens.struct (L := [(3, 0), (3, 1)]) (e := 2) Try.underlying23 (by first | rfl | kernel_rfl) (by kernel_rfl) (OpensP.cons (o := 0) (s := 1) (o2 := 1) op3 (by kernel_rfl) rfl (OpensP.one (o := 1) (s := 1) (e := 2) op3 (by kernel_rfl) rfl))) en23 wf23 (fun y => (y.1, y.2)) (fun y => by simp [en23]) (fun y h => h)
def en25 : ((Int × Int) × (Int × Int) × (Int × Int) × (Int × Int)) → List V := fun x : ((Int × Int) × (Int × Int) × (Int × Int) × (Int × Int)) => en23 (x.1) ++ (en23 (x.2.1) ++ (en23 (x.2.2.1) ++ (en23 (x.2.2.2))))
def wf25 : ((Int × Int) × (Int × Int) × (Int × Int) × (Int × Int)) → Prop := fun x : ((Int × Int) × (Int × Int) × (Int × Int) × (Int × Int)) => wf23 (x.1) ∧ wf23 (x.2.1) ∧ wf23 (x.2.2.1) ∧ wf23 (x.2.2.2)
theorem op25 : Opens Try.prog 25 8 en25 wf25 := Opens.iso (Opens.struct (L := [(23, 0), (23, 2), (23, 4), (23, 6)]) (e := 8) Try.underlying25 (by first | rfl | kernel_rfl) (by kernel_rfl) (OpensP.cons (o := 0) (s := 2) (o2 := 2) op23 (by kernel_rfl) rfl (OpensP.cons (o := 2) (s := 2) (o2 := 4) op23 (by kernel_rfl) rfl (OpensP.cons (o := 4) (s := 2) (o2 := 6) op23 (by kernel_rfl) rfl (OpensP.one (o := 6) (s := 2) (e := 8) op23 (by kernel_rfl) rfl))))) en25 wf25 (fun y => y) (fun y => rfl) (fun y h => h)
def en35 : (Int × Int × Int × Int) → List V := fun x : (Int × Int × Int × Int) => en3 (x.1) ++ (en3 (x.2.1) ++ (en3 (x.2.2.1) ++ (en3 (x.2.2.2))))
def wf35 : (Int × Int × Int × Int) → Prop := fun x : (Int × Int × Int × Int) => wf3 (x.1) ∧ wf3 (x.2.1) ∧ wf3 (x.2.2.1) ∧ wf3 (x.2.2.2)
theorem op35 : Opens Try.prog 35 4 en35 wf35 := Opens.iso (Opens.struct (L := [(3, 0), (3, 1), (3, 2), (3, 3)]) (e := 4) Try.underlying35 (by first | rfl | kernel_rfl) (by kernel_rfl) (OpensP.cons (o := 0) (s := 1) (o2 := 1) op3 (by kernel_rfl) rfl (OpensP.cons (o := 1) (s := 1) (o2 := 2) op3 (by kernel_rfl) rfl (OpensP.cons (o := 2) (s := 1) (o2 := 3) op3 (by kernel_rfl) rfl (OpensP.one (o := 3) (s := 1) (e := 4) op3 (by kernel_rfl) rfl))))) en35 wf35 (fun y => y) (fun y => rfl) (fun y h => h)
def en41 : (List (Int × Int)) → List V := fun xs : List (Int × Int) => [.sl 2 (xs.map fun x => wrapV true (en23 x))]
def wf41 : (List (Int × Int)) → Prop := fun xs : List (Int × Int) => xs.length * 16 ≤ 140737488351232 ∧ ∀ x ∈ xs, wf23 x
theorem op41 : Opens Try.prog 41 1 en41 wf41 := Opens.slice (B := 16) true Try.underlying41 op23 (by kernel_rfl) (by kernel_rfl) (by decide) (fun _ => rfl)
end Go.Proofs.YtgamkmgdbfeigaaM
