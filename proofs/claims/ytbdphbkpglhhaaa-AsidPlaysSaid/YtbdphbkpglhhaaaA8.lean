/- AsidApart: the blocks of the walk. -/
import Derived.Test.YtbdphbkpglhhaaaA7
import Derived.Test.YtbdphbkpglhhaaaShape
namespace Go.Proofs.Ytbdphbkpglhhaaa
open Go.ChangeShapes Go.WideShapes Go.ChangeAt Go.RowKit
set_option linter.unusedVariables false

theorem askT_bd' (N : Nat) (g : Nat → Int) (s : Int) (R : Nat → Int) (len : Nat) (age : Int) : age ≤ askT N g s R len age ∧ askT N g s R len age ≤ age + 1 := by
  unfold askT; split <;> omega
theorem below_drewN {B : Nat} {a w : World} (h : Below B a w) (n : Nat) : Below B a (w.drewN n) := ⟨h.os, h.tape, h.output, h.size, h.block⟩
theorem heap_drewN (w : World) (n : Nat) : (w.drewN n).heap = w.heap := rfl
def actb (K S : Int) (ra : Option Addr) (rl rc : Nat) : Obj := .cells #[.int .i64 K, .int .i64 S, .slice ra rl rc] 32 (0, 0)
theorem actb_c {w : World} {x : Nat} {K S : Int} {ra : Option Addr} {rl rc : Nat} (h : w.heap[x]? = some (actb K S ra rl rc)) :
    w.cell? ⟨x, 0, none⟩ = some (.int .i64 K) ∧ w.cell? ⟨x, 1, none⟩ = some (.int .i64 S) ∧ w.cell? ⟨x, 2, none⟩ = some (.slice ra rl rc) := by
  simp [World.cell?, h, actb]
theorem heap_lt {w : World} {x : Nat} {o : Obj} (h : w.heap[x]? = some o) : x < w.heap.size := by
  by_cases hx : x < w.heap.size
  · exact hx
  · rw [Array.getElem?_eq_none (by omega)] at h; cases h
theorem only_block {w w' : World} {b x : Nat} {o : Obj} (h : w.grownBy w' (some b)) (hx : w.heap[x]? = some o) (hne : x ≠ b) : w'.heap[x]? = some o :=
  (h.block x (heap_lt hx) (by simpa using hne)).trans hx
theorem set_block {w : World} {d x : Nat} {o : Obj} (hx : w.heap[x]? = some o) (hne : x ≠ d) (k : Nat) (v : Value) : (w.setCell ⟨d, k, none⟩ v).heap[x]? = some o :=
  (Below.heap_setCell _ _ _ _ (by simpa using hne)).trans hx
theorem alloc_block {w : World} {x : Nat} {o : Obj} (hx : w.heap[x]? = some o) (p : Obj) : (w.alloc p).heap[x]? = some o :=
  (Below.heap_alloc _ _ _ (heap_lt hx)).trans hx

theorem wipe_no {ow : Nat → Int} {S : Int} {q : Nat} (h : (ow q == S) = false) (j : Nat) : (if j < q ∧ ow j = S then 0 else ow j) = (if j < q + 1 ∧ ow j = S then 0 else ow j) := by
  congr 1
  rw [eq_iff_iff]
  have h' : ow q ≠ S := by simpa using h
  constructor
  · rintro ⟨h1, h2⟩; exact ⟨by omega, h2⟩
  · rintro ⟨h1, h2⟩
    refine ⟨?_, h2⟩
    by_cases hj : j = q
    · subst hj; exact absurd h2 h'
    · omega
theorem wipe_yes {ow : Nat → Int} {S : Int} {q : Nat} (h : (ow q == S) = true) (j : Nat) : (if j = q then 0 else if j < q ∧ ow j = S then 0 else ow j) = (if j < q + 1 ∧ ow j = S then 0 else ow j) := by
  have h' : ow q = S := by simpa using h
  by_cases hj : j = q
  · subst hj
    rw [if_pos rfl, if_pos ⟨by omega, h'⟩]
  · rw [if_neg hj]
    congr 1
    rw [eq_iff_iff]
    constructor
    · rintro ⟨h1, h2⟩; exact ⟨by omega, h2⟩
    · rintro ⟨h1, h2⟩; exact ⟨by omega, h2⟩

theorem ix29 (x0 x1 x2 x3 x4 x5 x6 x7 x8 x9 x10 x11 x12 x13 x14 x15 x16 : Value) (w : World) :
    (Instr.index 29 (.agg #[x0, x1, x2, x3, x4, x5, x6, x7, x8, x9, x10, x11, x12, x13, x14, x15, x16]) (.int .i64 0)).run Try.prog w = .ok x0 w ∧
    (Instr.index 29 (.agg #[x0, x1, x2, x3, x4, x5, x6, x7, x8, x9, x10, x11, x12, x13, x14, x15, x16]) (.int .i64 1)).run Try.prog w = .ok x1 w ∧
    (Instr.index 29 (.agg #[x0, x1, x2, x3, x4, x5, x6, x7, x8, x9, x10, x11, x12, x13, x14, x15, x16]) (.int .i64 2)).run Try.prog w = .ok x2 w ∧
    (Instr.index 29 (.agg #[x0, x1, x2, x3, x4, x5, x6, x7, x8, x9, x10, x11, x12, x13, x14, x15, x16]) (.int .i64 3)).run Try.prog w = .ok x3 w ∧
    (Instr.index 29 (.agg #[x0, x1, x2, x3, x4, x5, x6, x7, x8, x9, x10, x11, x12, x13, x14, x15, x16]) (.int .i64 4)).run Try.prog w = .ok x4 w ∧
    (Instr.index 29 (.agg #[x0, x1, x2, x3, x4, x5, x6, x7, x8, x9, x10, x11, x12, x13, x14, x15, x16]) (.int .i64 5)).run Try.prog w = .ok x5 w ∧
    (Instr.index 29 (.agg #[x0, x1, x2, x3, x4, x5, x6, x7, x8, x9, x10, x11, x12, x13, x14, x15, x16]) (.int .i64 6)).run Try.prog w = .ok x6 w ∧
    (Instr.index 29 (.agg #[x0, x1, x2, x3, x4, x5, x6, x7, x8, x9, x10, x11, x12, x13, x14, x15, x16]) (.int .i64 7)).run Try.prog w = .ok x7 w ∧
    (Instr.index 29 (.agg #[x0, x1, x2, x3, x4, x5, x6, x7, x8, x9, x10, x11, x12, x13, x14, x15, x16]) (.int .i64 8)).run Try.prog w = .ok x8 w ∧
    (Instr.index 29 (.agg #[x0, x1, x2, x3, x4, x5, x6, x7, x8, x9, x10, x11, x12, x13, x14, x15, x16]) (.int .i64 9)).run Try.prog w = .ok x9 w ∧
    (Instr.index 29 (.agg #[x0, x1, x2, x3, x4, x5, x6, x7, x8, x9, x10, x11, x12, x13, x14, x15, x16]) (.int .i64 10)).run Try.prog w = .ok x10 w ∧
    (Instr.index 29 (.agg #[x0, x1, x2, x3, x4, x5, x6, x7, x8, x9, x10, x11, x12, x13, x14, x15, x16]) (.int .i64 11)).run Try.prog w = .ok x11 w ∧
    (Instr.index 29 (.agg #[x0, x1, x2, x3, x4, x5, x6, x7, x8, x9, x10, x11, x12, x13, x14, x15, x16]) (.int .i64 12)).run Try.prog w = .ok x12 w ∧
    (Instr.index 29 (.agg #[x0, x1, x2, x3, x4, x5, x6, x7, x8, x9, x10, x11, x12, x13, x14, x15, x16]) (.int .i64 13)).run Try.prog w = .ok x13 w ∧
    (Instr.index 29 (.agg #[x0, x1, x2, x3, x4, x5, x6, x7, x8, x9, x10, x11, x12, x13, x14, x15, x16]) (.int .i64 14)).run Try.prog w = .ok x14 w ∧
    (Instr.index 29 (.agg #[x0, x1, x2, x3, x4, x5, x6, x7, x8, x9, x10, x11, x12, x13, x14, x15, x16]) (.int .i64 15)).run Try.prog w = .ok x15 w ∧
    (Instr.index 29 (.agg #[x0, x1, x2, x3, x4, x5, x6, x7, x8, x9, x10, x11, x12, x13, x14, x15, x16]) (.int .i64 16)).run Try.prog w = .ok x16 w := by
  refine ⟨?_, ?_, ?_, ?_, ?_, ?_, ?_, ?_, ?_, ?_, ?_, ?_, ?_, ?_, ?_, ?_, ?_⟩ <;> kernel_rfl
theorem ix29k (F : Nat → Value) (k : Nat) (hk : k < 17) (w : World) :
    (Instr.index 29 (.agg #[F 0, F 1, F 2, F 3, F 4, F 5, F 6, F 7, F 8, F 9, F 10, F 11, F 12, F 13, F 14, F 15, F 16]) (.int .i64 k)).run Try.prog w = .ok (F k) w := by
  obtain ⟨h0, h1, h2, h3, h4, h5, h6, h7, h8, h9, h10, h11, h12, h13, h14, h15, h16⟩ := ix29 (F 0) (F 1) (F 2) (F 3) (F 4) (F 5) (F 6) (F 7) (F 8) (F 9) (F 10) (F 11) (F 12) (F 13) (F 14) (F 15) (F 16) w
  rcases sev k hk with rfl | rfl | rfl | rfl | rfl | rfl | rfl | rfl | rfl | rfl | rfl | rfl | rfl | rfl | rfl | rfl | rfl
  · exact h0
  · exact h1
  · exact h2
  · exact h3
  · exact h4
  · exact h5
  · exact h6
  · exact h7
  · exact h8
  · exact h9
  · exact h10
  · exact h11
  · exact h12
  · exact h13
  · exact h14
  · exact h15
  · exact h16
theorem arr17_cells {w : World} {b : Nat} {t : TypeId} {F : Nat → Value} (h : w.heap[b]? = some (arr17 t F)) :
    w.cell? ⟨b, 0, none⟩ = some (F 0) ∧ w.cell? ⟨b, 1, none⟩ = some (F 1) ∧ w.cell? ⟨b, 2, none⟩ = some (F 2) ∧ w.cell? ⟨b, 3, none⟩ = some (F 3) ∧ w.cell? ⟨b, 4, none⟩ = some (F 4) ∧ w.cell? ⟨b, 5, none⟩ = some (F 5) ∧ w.cell? ⟨b, 6, none⟩ = some (F 6) ∧ w.cell? ⟨b, 7, none⟩ = some (F 7) ∧ w.cell? ⟨b, 8, none⟩ = some (F 8) ∧ w.cell? ⟨b, 9, none⟩ = some (F 9) ∧ w.cell? ⟨b, 10, none⟩ = some (F 10) ∧ w.cell? ⟨b, 11, none⟩ = some (F 11) ∧ w.cell? ⟨b, 12, none⟩ = some (F 12) ∧ w.cell? ⟨b, 13, none⟩ = some (F 13) ∧ w.cell? ⟨b, 14, none⟩ = some (F 14) ∧ w.cell? ⟨b, 15, none⟩ = some (F 15) ∧ w.cell? ⟨b, 16, none⟩ = some (F 16) :=
  ⟨arr17_cell h 0 (by omega), arr17_cell h 1 (by omega), arr17_cell h 2 (by omega), arr17_cell h 3 (by omega), arr17_cell h 4 (by omega), arr17_cell h 5 (by omega), arr17_cell h 6 (by omega), arr17_cell h 7 (by omega), arr17_cell h 8 (by omega), arr17_cell h 9 (by omega), arr17_cell h 10 (by omega), arr17_cell h 11 (by omega), arr17_cell h 12 (by omega), arr17_cell h 13 (by omega), arr17_cell h 14 (by omega), arr17_cell h 15 (by omega), arr17_cell h 16 (by omega)⟩
theorem arr17_frees {w : World} {b : Nat} {t : TypeId} {F : Nat → Value} (h : w.heap[b]? = some (arr17 t F)) :
    w.frozen? ⟨b, 0, none⟩ = false ∧ w.frozen? ⟨b, 1, none⟩ = false ∧ w.frozen? ⟨b, 2, none⟩ = false ∧ w.frozen? ⟨b, 3, none⟩ = false ∧ w.frozen? ⟨b, 4, none⟩ = false ∧ w.frozen? ⟨b, 5, none⟩ = false ∧ w.frozen? ⟨b, 6, none⟩ = false ∧ w.frozen? ⟨b, 7, none⟩ = false ∧ w.frozen? ⟨b, 8, none⟩ = false ∧ w.frozen? ⟨b, 9, none⟩ = false ∧ w.frozen? ⟨b, 10, none⟩ = false ∧ w.frozen? ⟨b, 11, none⟩ = false ∧ w.frozen? ⟨b, 12, none⟩ = false ∧ w.frozen? ⟨b, 13, none⟩ = false ∧ w.frozen? ⟨b, 14, none⟩ = false ∧ w.frozen? ⟨b, 15, none⟩ = false ∧ w.frozen? ⟨b, 16, none⟩ = false :=
  ⟨arr17_free h 0, arr17_free h 1, arr17_free h 2, arr17_free h 3, arr17_free h 4, arr17_free h 5, arr17_free h 6, arr17_free h 7, arr17_free h 8, arr17_free h 9, arr17_free h 10, arr17_free h 11, arr17_free h 12, arr17_free h 13, arr17_free h 14, arr17_free h 15, arr17_free h 16⟩
def fill (w : World) (d : Nat) (f : Nat → Int) : World := (((((((((((((((((w.setCell ⟨d, 0, none⟩ (.int .i64 (f 0))).setCell ⟨d, 1, none⟩ (.int .i64 (f 1))).setCell ⟨d, 2, none⟩ (.int .i64 (f 2))).setCell ⟨d, 3, none⟩ (.int .i64 (f 3))).setCell ⟨d, 4, none⟩ (.int .i64 (f 4))).setCell ⟨d, 5, none⟩ (.int .i64 (f 5))).setCell ⟨d, 6, none⟩ (.int .i64 (f 6))).setCell ⟨d, 7, none⟩ (.int .i64 (f 7))).setCell ⟨d, 8, none⟩ (.int .i64 (f 8))).setCell ⟨d, 9, none⟩ (.int .i64 (f 9))).setCell ⟨d, 10, none⟩ (.int .i64 (f 10))).setCell ⟨d, 11, none⟩ (.int .i64 (f 11))).setCell ⟨d, 12, none⟩ (.int .i64 (f 12))).setCell ⟨d, 13, none⟩ (.int .i64 (f 13))).setCell ⟨d, 14, none⟩ (.int .i64 (f 14))).setCell ⟨d, 15, none⟩ (.int .i64 (f 15))).setCell ⟨d, 16, none⟩ (.int .i64 (f 16)))
theorem fill_block {w : World} {d x : Nat} {o : Obj} {f : Nat → Int} (h : w.heap[x]? = some o) (hne : x ≠ d) : (fill w d f).heap[x]? = some o := by
  unfold fill
  repeat refine set_block ?_ hne _ _
  exact h
theorem fill_gi {w : World} {d b : Nat} {n age : Int} {g f : Nat → Int} (h : Gi w b n age g) (hne : d ≠ b) : Gi (fill w d f) b n age g := fill_block h (Ne.symm hne)
theorem fill_below {B : Nat} {a w : World} {d : Nat} {f : Nat → Int} (h : Below B a w) (hd : B ≤ d) : Below B a (fill w d f) := by
  unfold fill
  refine Below.setCell ?_ hd _
  refine Below.setCell ?_ hd _
  refine Below.setCell ?_ hd _
  refine Below.setCell ?_ hd _
  refine Below.setCell ?_ hd _
  refine Below.setCell ?_ hd _
  refine Below.setCell ?_ hd _
  refine Below.setCell ?_ hd _
  refine Below.setCell ?_ hd _
  refine Below.setCell ?_ hd _
  refine Below.setCell ?_ hd _
  refine Below.setCell ?_ hd _
  refine Below.setCell ?_ hd _
  refine Below.setCell ?_ hd _
  refine Below.setCell ?_ hd _
  refine Below.setCell ?_ hd _
  refine Below.setCell ?_ hd _
  exact h
theorem fill_self {w : World} {d : Nat} {F : Nat → Value} {f : Nat → Int} (h : w.heap[d]? = some (arr17 29 F)) : (fill w d f).heap[d]? = some (arr17 29 fun j => .int .i64 (f j)) := by
  unfold fill
  have h0 := arr17_set h 0 (by omega) (.int .i64 (f 0))
  have h1 := arr17_set h0 1 (by omega) (.int .i64 (f 1))
  have h2 := arr17_set h1 2 (by omega) (.int .i64 (f 2))
  have h3 := arr17_set h2 3 (by omega) (.int .i64 (f 3))
  have h4 := arr17_set h3 4 (by omega) (.int .i64 (f 4))
  have h5 := arr17_set h4 5 (by omega) (.int .i64 (f 5))
  have h6 := arr17_set h5 6 (by omega) (.int .i64 (f 6))
  have h7 := arr17_set h6 7 (by omega) (.int .i64 (f 7))
  have h8 := arr17_set h7 8 (by omega) (.int .i64 (f 8))
  have h9 := arr17_set h8 9 (by omega) (.int .i64 (f 9))
  have h10 := arr17_set h9 10 (by omega) (.int .i64 (f 10))
  have h11 := arr17_set h10 11 (by omega) (.int .i64 (f 11))
  have h12 := arr17_set h11 12 (by omega) (.int .i64 (f 12))
  have h13 := arr17_set h12 13 (by omega) (.int .i64 (f 13))
  have h14 := arr17_set h13 14 (by omega) (.int .i64 (f 14))
  have h15 := arr17_set h14 15 (by omega) (.int .i64 (f 15))
  have h16 := arr17_set h15 16 (by omega) (.int .i64 (f 16))
  rw [h16]
  simp [arr17]

/-- The frame of a round: the giver, the owners, the rest as it was. -/
structure Fr (w0 : World) (b d N : Nat) (age : Int) (g ow : Nat → Int) (wr : World) : Prop where
  gi : Gi wr b N age g
  ow : wr.heap[d]? = some (arr17 29 fun j => .int .i64 (ow j))
  be : Below w0.heap.size w0 wr
theorem Fr.drewN {w0 : World} {b d N : Nat} {age : Int} {g ow : Nat → Int} {wr : World} (h : Fr w0 b d N age g ow wr) (n : Nat) : Fr w0 b d N age g ow (wr.drewN n) := ⟨h.gi, h.ow, below_drewN h.be n⟩

end Go.Proofs.Ytbdphbkpglhhaaa
