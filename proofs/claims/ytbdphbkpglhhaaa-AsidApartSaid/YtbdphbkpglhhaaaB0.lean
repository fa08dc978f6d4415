/- AsidApart: the loops of the law's body. -/
import Derived.Test.YtbdphbkpglhhaaaA8
import Derived.Laws.Rows
import Derived.Laws.Tables
namespace Go.Proofs.Ytbdphbkpglhhaaa
open Go.ChangeShapes Go.WideShapes Go.ChangeAt Go.RowKit
set_option linter.unusedVariables false

def loopsOf : Code → List Code
  | .loop c => .loop c :: loopsOf c
  | .seq a b => loopsOf a ++ loopsOf b
  | .block _ c => loopsOf c
  | .scope c => loopsOf c
  | .cond _ a b => loopsOf a ++ loopsOf b
  | _ => []
noncomputable def bodyOf (f : Func) : Code := f.body.getD .skip
noncomputable def lp (k : Nat) : Code := (loopsOf (bodyOf Try.f3)).getD k .skip
def inner : Code → Code
  | .loop c => c
  | c => c
noncomputable def body0 : Code := inner (lp 0)
def row17 (kk : Nat → Int) : Array Value := #[.int .i64 (kk 0), .int .i64 (kk 1), .int .i64 (kk 2), .int .i64 (kk 3), .int .i64 (kk 4), .int .i64 (kk 5), .int .i64 (kk 6), .int .i64 (kk 7), .int .i64 (kk 8), .int .i64 (kk 9), .int .i64 (kk 10), .int .i64 (kk 11), .int .i64 (kk 12), .int .i64 (kk 13), .int .i64 (kk 14), .int .i64 (kk 15), .int .i64 (kk 16)]
theorem row17_one (kk : Nat → Int) : (row17 kk).all (·.oneCell') = true := by simp [row17, Value.oneCell']
theorem row_block {w : World} {d x : Nat} {o : Obj} {cs : Array Value} (h : w.heap[x]? = some o) (hne : x ≠ d) : (w.setRow d cs).heap[x]? = some o := (setRow_other w d x cs hne).trans h
theorem row_fr {w0 : World} {b d N : Nat} {age : Int} {g ow kk : Nat → Int} {w : World} (h : Fr w0 b d N age g ow w) (hbd : b < d) (h0 : w0.heap.size ≤ d) : Fr w0 b d N age g kk (w.setRow d (row17 kk)) :=
  ⟨row_block h.gi (by omega), setRow_heap w d _ (row17 kk) 29 (0, 0) h.ow, ⟨h.be.os, h.be.tape, h.be.output, by simpa using h.be.size, fun i hi => (setRow_other w d i _ (by omega)).trans (h.be.block i hi)⟩⟩
end Go.Proofs.Ytbdphbkpglhhaaa
