/- How the arguments of the laws are read as data. Written by this session's own program wip/mach/row.py. -/
import Derived.Test.YtnanlipnhdifgaaM22
import Derived.Test.YtnanlipnhdifgaaProg
import Derived.ProofKit
namespace Go.Proofs.YtnanlipnhdifgaaM
open Go Go.RowKit
def en3 : Int → List V := fun n : Int => [.i .i64 n]
def wf3 : Int → Prop := fun n : Int => (Lit.int .i64 n).wf = true
theorem op3 : Opens Try.prog 3 1 en3 wf3 := Opens.int (k := .i64) Try.underlying3
def en23 : (Int × Int) → List V := fun x : (Int × Int) => en3 ((x).1) ++ (en3 ((x).2))
def wf23 : (Int × Int) → Prop := fun x : (Int × Int) => wf3 ((x).1) ∧ wf3 ((x).2)
theorem op23 : Opens Try.prog 23 2 en23 wf23 := Opens.iso (Opens.struct (L := [(3, 0), (3, 1)]) (e := 2) Try.underlying23 (by first | rfl | kernel_rfl) (by kernel_rfl) (OpensP.cons (o := 0) (s := 1) (o2 := 1) op3 (by kernel_rfl) rfl (OpensP.one (o := 1) (s := 1) (e := 2) op3 (by kernel_rfl) rfl))) en23 wf23 (fun y => (y.1, y.2)) (fun y => by simp [en23]) (fun y h => h)
def en35 : (Int × Int × Int × Int) → List V := fun x : (Int × Int × Int × Int) => en3 (x.1) ++ (en3 (x.2.1) ++ (en3 (x.2.2.1) ++ (en3 (x.2.2.2))))
def wf35 : (Int × Int × Int × Int) → Prop := fun x : (Int × Int × Int × Int) => wf3 (x.1) ∧ wf3 (x.2.1) ∧ wf3 (x.2.2.1) ∧ wf3 (x.2.2.2)
theorem op35 : Opens Try.prog 35 4 en35 wf35 := Opens.iso (Opens.struct (L := [(3, 0), (3, 1), (3, 2), (3, 3)]) (e := 4) Try.underlying35 (by first | rfl | kernel_rfl) (by kernel_rfl) (OpensP.cons (o := 0) (s := 1) (o2 := 1) op3 (by kernel_rfl) rfl (OpensP.cons (o := 1) (s := 1) (o2 := 2) op3 (by kernel_rfl) rfl (OpensP.cons (o := 2) (s := 1) (o2 := 3) op3 (by kernel_rfl) rfl (OpensP.one (o := 3) (s := 1) (e := 4) op3 (by kernel_rfl) rfl))))) en35 wf35 (fun y => y) (fun y => rfl) (fun y h => h)
end Go.Proofs.YtnanlipnhdifgaaM
