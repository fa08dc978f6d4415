/- What the cells of plain structs are, when they read as data. -/
import Derived.Test.YtnogeejfhojcnaaPost
namespace Go.Proofs.Ytnogeejfhojcnaa
open Go.ChangeShapes Go.WideShapes Go.ChangeAt Go.RowKit
section
variable {H : Type} {enc : TypeId × Value → H} {w : World} {base : Nat} {spare : Nat → Bool} {held : Bool}

theorem struct_parts {P : Program} {t : TypeId} {fs : Array Field} {fuel : Nat} {cs : List Value} {x : DataW H × List MemPlace} (ht : P.underlying t = some (.struct fs)) (h : DataW.trod enc P w base spare held fuel t cs = some x) :
    cs.length = P.cellsOf t ∧ ∀ (i : Nat) (f : Field), fs[i]? = some f → ∃ n y, DataW.trod enc P w base spare held n f.type ((cs.drop f.offset).take (P.cellsOf f.type)) = some y := by
  obtain ⟨xs, n, _, _, hl, hx, hf⟩ := DataW.trod_struct ht h
  refine ⟨hl, fun i f hi => ?_⟩
  have hlt : i < fs.size := (Array.getElem?_eq_some_iff.1 hi).1
  refine ⟨n, xs[i], ?_⟩
  rw [hf i f hi]
  exact List.getElem?_eq_getElem (by omega)

theorem c3 : Try.prog.cellsOf 3 = 1 := by kernel_rfl
theorem c22 : Try.prog.cellsOf 22 = 1 := by kernel_rfl
theorem c42 : Try.prog.cellsOf 42 = 1 := by kernel_rfl
theorem c44 : Try.prog.cellsOf 44 = 5 := by kernel_rfl
theorem c46 : Try.prog.cellsOf 46 = 9 := by kernel_rfl

theorem five {α : Type} {l : List α} (h : l.length = 5) : ∃ a b c d e, l = [a, b, c, d, e] := by
  match l, h with
  | [a, b, c, d, e], _ => exact ⟨a, b, c, d, e, rfl⟩
theorem nine {α : Type} {l : List α} (h : l.length = 9) : ∃ a b c d e f g i j, l = [a, b, c, d, e, f, g, i, j] := by
  match l, h with
  | [a, b, c, d, e, f, g, i, j], _ => exact ⟨a, b, c, d, e, f, g, i, j, rfl⟩

theorem entry_cells {fuel : Nat} {cs : List Value} {x : DataW H × List MemPlace} (h : DataW.trod enc Try.prog w base spare held fuel 44 cs = some x) :
    ∃ k wd vl fr fm : Int, cs = [.int .i8 k, .int .u64 wd, .int .u64 vl, .int .i64 fr, .int .i64 fm] ∧ (Lit.int .i8 k).wf = true ∧ (Lit.int .u64 wd).wf = true ∧ (Lit.int .u64 vl).wf = true ∧ (Lit.int .i64 fr).wf = true ∧ (Lit.int .i64 fm).wf = true := by
  obtain ⟨hl, hf⟩ := struct_parts Try.underlying44 h
  rw [c44] at hl
  obtain ⟨a0, a1, a2, a3, a4, rfl⟩ := five hl
  obtain ⟨_, _, e0⟩ := hf 0 _ rfl
  obtain ⟨_, _, e1⟩ := hf 1 _ rfl
  obtain ⟨_, _, e2⟩ := hf 2 _ rfl
  obtain ⟨_, _, e3⟩ := hf 3 _ rfl
  obtain ⟨_, _, e4⟩ := hf 4 _ rfl
  obtain ⟨k, h0, _, w0⟩ := DataW.trod_int Try.underlying42 e0
  obtain ⟨wd, h1, _, w1⟩ := DataW.trod_int Try.underlying22 e1
  obtain ⟨vl, h2, _, w2⟩ := DataW.trod_int Try.underlying22 e2
  obtain ⟨fr, h3, _, w3⟩ := DataW.trod_int Try.underlying3 e3
  obtain ⟨fm, h4, _, w4⟩ := DataW.trod_int Try.underlying3 e4
  simp [c42] at h0
  simp [c22] at h1
  simp [c22] at h2
  simp [c3] at h3
  simp [c3] at h4
  subst h0 h1 h2 h3 h4
  exact ⟨k, wd, vl, fr, fm, rfl, w0, w1, w2, w3, w4⟩
theorem act_cells {fuel : Nat} {cs : List Value} {x : DataW H × List MemPlace} (h : DataW.trod enc Try.prog w base spare held fuel 46 cs = some x) :
    ∃ dd co wo fo k wd vl fr fm : Int, cs = [.int .i64 dd, .int .i64 co, .int .u64 wo, .int .i64 fo, .int .i8 k, .int .u64 wd, .int .u64 vl, .int .i64 fr, .int .i64 fm] ∧
      (Lit.int .i64 dd).wf = true ∧ (Lit.int .i64 co).wf = true ∧ (Lit.int .u64 wo).wf = true ∧ (Lit.int .i64 fo).wf = true ∧
      (Lit.int .i8 k).wf = true ∧ (Lit.int .u64 wd).wf = true ∧ (Lit.int .u64 vl).wf = true ∧ (Lit.int .i64 fr).wf = true ∧ (Lit.int .i64 fm).wf = true := by
  obtain ⟨hl, hf⟩ := struct_parts Try.underlying46 h
  rw [c46] at hl
  obtain ⟨a0, a1, a2, a3, a4, a5, a6, a7, a8, rfl⟩ := nine hl
  obtain ⟨_, _, e0⟩ := hf 0 _ rfl
  obtain ⟨_, _, e1⟩ := hf 1 _ rfl
  obtain ⟨_, _, e2⟩ := hf 2 _ rfl
  obtain ⟨_, _, e3⟩ := hf 3 _ rfl
  obtain ⟨_, _, e4⟩ := hf 4 _ rfl
  obtain ⟨dd, h0, _, w0⟩ := DataW.trod_int Try.underlying3 e0
  obtain ⟨co, h1, _, w1⟩ := DataW.trod_int Try.underlying3 e1
  obtain ⟨wo, h2, _, w2⟩ := DataW.trod_int Try.underlying22 e2
  obtain ⟨fo, h3, _, w3⟩ := DataW.trod_int Try.underlying3 e3
  obtain ⟨k, wd, vl, fr, fm, h4, w4, w5, w6, w7, w8⟩ := entry_cells e4
  simp [c3] at h0
  simp [c3] at h1
  simp [c22] at h2
  simp [c3] at h3
  simp [c44] at h4
  obtain ⟨rfl, rfl, rfl, rfl, rfl⟩ := h4
  subst h0 h1 h2 h3
  exact ⟨dd, co, wo, fo, k, wd, vl, fr, fm, rfl, w0, w1, w2, w3, w4, w5, w6, w7, w8⟩
end
end Go.Proofs.Ytnogeejfhojcnaa
