/- What the cells of calls and requests are, when they read as data. -/
import Derived.Test.YtgfnefcgpdkljaaPost
namespace Go.Proofs.Ytgfnefcgpdkljaa
open Go.ChangeShapes Go.WideShapes Go.ChangeAt Go.RowKit
section
variable {H : Type} {enc : TypeId × Value → H} {w : World} {base : Nat} {spare : Nat → Bool} {held : Bool}

theorem struct_parts {P : Program} {t : TypeId} {fs : Array Field} {fuel : Nat} {cs : List Value} {x : DataW H × List MemPlace} (ht : P.underlying t = some (.struct fs)) (h : DataW.trod enc P w base spare held fuel t cs = some x) :
    cs.length = P.cellsOf t ∧ ∀ (i : Nat) (f : Field), fs[i]? = some f → ∃ n y, DataW.trod enc P w base spare held n f.type ((cs.drop f.offset).take (P.cellsOf f.type)) = some y := by
  obtain ⟨xs, n, _, _, hl, hx, hf⟩ := DataW.trod_struct ht h
  refine ⟨hl, fun i f hi => ?_⟩
  have hlt : i < fs.size := (Array.getElem?_eq_some_iff.1 hi).1
  refine ⟨n, xs[i], ?_⟩
  rw [hf i f hi]
  exact List.getElem?_eq_getElem (by omega)

theorem c3 : Try.prog.cellsOf 3 = 1 := by kernel_rfl
theorem c4 : Try.prog.cellsOf 4 = 1 := by kernel_rfl
theorem c22 : Try.prog.cellsOf 22 = 1 := by kernel_rfl
theorem c23 : Try.prog.cellsOf 23 = 3 := by kernel_rfl
theorem c25 : Try.prog.cellsOf 25 = 4 := by kernel_rfl
theorem c26 : Try.prog.cellsOf 26 = 1 := by kernel_rfl
theorem c28 : Try.prog.cellsOf 28 = 5 := by kernel_rfl

theorem five {α : Type} {l : List α} (h : l.length = 5) : ∃ a b c d e, l = [a, b, c, d, e] := by
  match l, h with
  | [a, b, c, d, e], _ => exact ⟨a, b, c, d, e, rfl⟩
theorem four {α : Type} {l : List α} (h : l.length = 4) : ∃ a b c d, l = [a, b, c, d] := by
  match l, h with
  | [a, b, c, d], _ => exact ⟨a, b, c, d, rfl⟩
theorem three {α : Type} {l : List α} (h : l.length = 3) : ∃ a b c, l = [a, b, c] := by
  match l, h with
  | [a, b, c], _ => exact ⟨a, b, c, rfl⟩

theorem req_cells {fuel : Nat} {cs : List Value} {x : DataW H × List MemPlace} (h : DataW.trod enc Try.prog w base spare held fuel 28 cs = some x) :
    ∃ (k f c : Int) (wr : Bool) (pc : Int), cs = [.int .i8 k, .int .u64 f, .int .i64 c, .bool wr, .int .i64 pc] ∧ (Lit.int .i8 k).wf = true ∧ (Lit.int .u64 f).wf = true ∧ (Lit.int .i64 c).wf = true ∧ (Lit.int .i64 pc).wf = true := by
  obtain ⟨hl, hf⟩ := struct_parts Try.underlying28 h
  rw [c28] at hl
  obtain ⟨a0, a1, a2, a3, a4, rfl⟩ := five hl
  obtain ⟨_, _, e0⟩ := hf 0 _ rfl
  obtain ⟨_, _, e1⟩ := hf 1 _ rfl
  obtain ⟨_, _, e2⟩ := hf 2 _ rfl
  obtain ⟨_, _, e3⟩ := hf 3 _ rfl
  obtain ⟨_, _, e4⟩ := hf 4 _ rfl
  obtain ⟨k, h0, _, w0⟩ := DataW.trod_int Try.underlying26 e0
  obtain ⟨f, h1, _, w1⟩ := DataW.trod_int Try.underlying22 e1
  obtain ⟨c, h2, _, w2⟩ := DataW.trod_int Try.underlying3 e2
  obtain ⟨wr, h3, _⟩ := DataW.trod_bool Try.underlying4 e3
  obtain ⟨pc, h4, _, w4⟩ := DataW.trod_int Try.underlying3 e4
  simp [c26] at h0
  simp [c22] at h1
  simp [c3] at h2
  simp [c4] at h3
  simp [c3] at h4
  subst h0 h1 h2 h3 h4
  exact ⟨k, f, c, wr, pc, rfl, w0, w1, w2, w4⟩

theorem arr3_cells {fuel : Nat} {cs : List Value} {x : DataW H × List MemPlace} (h : DataW.trod enc Try.prog w base spare held fuel 23 cs = some x) :
    ∃ a b c : Int, cs = [.int .u64 a, .int .u64 b, .int .u64 c] ∧ (Lit.int .u64 a).wf = true ∧ (Lit.int .u64 b).wf = true ∧ (Lit.int .u64 c).wf = true := by
  obtain ⟨xs, m, _, _, hl, hx, hf⟩ := DataW.trod_array Try.underlying23 h
  rw [c23] at hl
  obtain ⟨a0, a1, a2, rfl⟩ := three hl
  have f0 := (hf 0 (by omega)).trans (List.getElem?_eq_getElem (by omega))
  have f1 := (hf 1 (by omega)).trans (List.getElem?_eq_getElem (by omega))
  have f2 := (hf 2 (by omega)).trans (List.getElem?_eq_getElem (by omega))
  obtain ⟨a, h0, _, w0⟩ := DataW.trod_int Try.underlying22 f0
  obtain ⟨b, h1, _, w1⟩ := DataW.trod_int Try.underlying22 f1
  obtain ⟨c, h2, _, w2⟩ := DataW.trod_int Try.underlying22 f2
  simp [c22] at h0
  simp [c22] at h1
  simp [c22] at h2
  subst h0 h1 h2
  exact ⟨a, b, c, rfl, w0, w1, w2⟩

theorem call_cells {fuel : Nat} {cs : List Value} {x : DataW H × List MemPlace} (h : DataW.trod enc Try.prog w base spare held fuel 25 cs = some x) :
    ∃ nu a b c : Int, cs = [.int .u64 nu, .int .u64 a, .int .u64 b, .int .u64 c] ∧ (Lit.int .u64 nu).wf = true ∧ (Lit.int .u64 a).wf = true ∧ (Lit.int .u64 b).wf = true ∧ (Lit.int .u64 c).wf = true := by
  obtain ⟨hl, hf⟩ := struct_parts Try.underlying25 h
  rw [c25] at hl
  obtain ⟨a0, a1, a2, a3, rfl⟩ := four hl
  obtain ⟨_, _, e0⟩ := hf 0 _ rfl
  obtain ⟨_, _, e1⟩ := hf 1 _ rfl
  obtain ⟨nu, h0, _, w0⟩ := DataW.trod_int Try.underlying22 e0
  obtain ⟨a, b, c, h1, w1, w2, w3⟩ := arr3_cells e1
  simp [c22] at h0
  simp [c23] at h1
  obtain ⟨rfl, rfl, rfl⟩ := h1
  subst h0
  exact ⟨nu, a, b, c, rfl, w0, w1, w2, w3⟩

/-- An aggregate argument: its cells as a list. -/
theorem agg_of {P : Program} {r : Reach} {b0 : Nat} {t : TypeId} {v : Value} {fs : Array Field} {l : List Value} (hs : P.underlying t = some (.struct fs)) (hv : Value.okWide P w r b0 t v) (h : v.cells.toList = l) : v = .agg l.toArray := by
  obtain ⟨cs, rfl, _⟩ := okWide_struct hs hv
  subst h
  simp [Value.cells]
theorem agg_of_array {P : Program} {r : Reach} {b0 : Nat} {t e : TypeId} {n : Nat} {v : Value} {l : List Value} (hs : P.underlying t = some (.array n e)) (hv : Value.okWide P w r b0 t v) (h : v.cells.toList = l) : v = .agg l.toArray := by
  simp only [Value.okWide, hs] at hv
  obtain ⟨cs, rfl, _⟩ := hv
  subst h
  simp [Value.cells]
end
end Go.Proofs.Ytgfnefcgpdkljaa
