/- BufferOwn: the loops of the law's body. -/
import Derived.Test.YtdmcmpbappjdoaaDoorP3
import Derived.Deep.Cut
import Derived.Deep.CutRange
namespace Go.Proofs.YtdmcmpbappjdoaaDoor
open Go.ChangeShapes Go.WideShapes Go.ChangeAt Go.RowKit
set_option linter.unusedVariables false

def loopsOf : Code → List Code
  | .loop c => .loop c :: loopsOf c
  | .seq a b => loopsOf a ++ loopsOf b
  | .block _ c => loopsOf c
  | .scope c => loopsOf c
  | .cond _ a b => loopsOf a ++ loopsOf b
  | _ => []
noncomputable def lp (k : Nat) : Code := (loopsOf (Tryd.f3.body.getD .skip)).getD k .skip
def z2k : Array Value := madeCells #[.int .u64 0] 2048
theorem z2k_at (j : Nat) (hj : j < 2048) : z2k[j]? = some (.int .u64 0) := by
  simp [z2k, madeCells, hj, Nat.mod_one]
theorem mk2k (w : World) : (Instr.makeSlice 27 (.int .i64 2048) (.int .i64 2048)).run Tryd.prog w = .ok (.slice (some ⟨w.heap.size, 0, none⟩) 2048 2048) (w.alloc (.cells z2k 28)) := by
  obtain ⟨i0, hi, hz0, hz1, hz2⟩ := info_parts Tryd.info28
  have h := run_makeSlice (P := Tryd.prog) w 27 28 i0 (.int .u64 0) Tryd.underlying27 hi hz0 .i64 .i64 2048 2048 (by omega) (by omega) (by rw [hz1]; omega) (by rw [hz2]; omega) (by omega)
  rw [h, hz1]
  simp only [z2k, Nat.mul_one, Value.cells]
  rfl
theorem mo_new (w : World) : Mo (w.alloc (.cells z2k 28)) w.heap.size (fun _ => 0) := ⟨fun j hj => by
  rw [cell_of_row _ _ j z2k 28 (0, 0) (heap_alloc_new w (.cells z2k 28))]
  exact z2k_at j hj, fun j => frozen_of_row _ _ j z2k 28 (heap_alloc_new w (.cells z2k 28))⟩
theorem Tryd.info3 : (Tryd.prog.info? 3).map (fun i => (i.zero, i.size, i.bytes)) = some (some (.int .i64 0), 1, 8) := by kernel_rfl
def small (e : Ent) : Prop := e.fr < 4
end Go.Proofs.YtdmcmpbappjdoaaDoor
