/- Layer 21: the document's Parse as one plain function; Make. -/
import Derived.Test.YtgfnefcgpdkljaaB7
namespace Go.Proofs.Ytgfnefcgpdkljaa
open Go.ChangeShapes Go.WideShapes Go.ChangeAt Go.RowKit
set_option linter.unusedVariables false

theorem rparse_any (nu a0 a1 a2 : Int) (w : World) (h0 : 0 ≤ nu) (c0 : 0 ≤ a0) (c1 : a0 ≤ 18446744073709551615) (d0 : 0 ≤ a1) (d1 : a1 ≤ 18446744073709551615) :
    Calls Try.prog 13 #[.agg #[.int .u64 nu, .int .u64 a0, .int .u64 a1, .int .u64 a2]] w fun e w' => e = .returned (.tuple #[.agg #[.int .i8 (pK nu a0 a1 a2), .int .u64 (pF nu a0 a1 a2), .int .i64 (pC nu a0 a1 a2), .bool (pW nu a0 a1 a2), .int .i64 (pP nu a0 a1 a2)], .int .i64 (pE nu a0 a1 a2)]) ∧ Below w.heap.size w w' := by
  have big : (nu = 0 ∨ 8 ≤ nu) ∨ nu = 1 ∨ nu = 2 ∨ nu = 3 ∨ nu = 4 ∨ nu = 5 ∨ nu = 6 ∨ nu = 7 := by omega
  unfold pK pF pC pW pP pE
  rcases big with h | rfl | rfl | rfl | rfl | rfl | rfl | rfl
  · have : pOk nu a0 a1 a2 = false := by
      simp only [pOk]
      rw [if_neg (by omega), if_neg (by omega), if_neg (by omega), if_neg (by omega)]
    simp only [this, Bool.false_eq_true, false_and, if_false]
    cases hl : lenB a0 a1 <;> cases hr : rigB a2
    · exact rparseNFF nu a0 a1 a2 w h hl hr c0 c1 d0 d1
    · exact rparseNFT nu a0 a1 a2 w h hl hr c0 c1 d0 d1
    · exact rparseNTF nu a0 a1 a2 w h hl hr c0 c1 d0 d1
    · exact rparseNTT nu a0 a1 a2 w h hl hr c0 c1 d0 d1
  · cases hl : lenB a0 a1 <;> cases hr : rigB a2 <;> simp only [pOk, hl, hr]
    · exact rparse1FF a0 a1 a2 w hl hr c0 c1 d0 d1
    · exact rparse1FT a0 a1 a2 w hl hr c0 c1 d0 d1
    · exact rparse1TF a0 a1 a2 w hl hr c0 c1 d0 d1
    · exact rparse1TT a0 a1 a2 w hl hr c0 c1 d0 d1
  · cases hl : lenB a0 a1 <;> cases hr : rigB a2 <;> simp only [pOk, hl, hr]
    · exact rparse2FF a0 a1 a2 w hl hr c0 c1 d0 d1
    · exact rparse2FT a0 a1 a2 w hl hr c0 c1 d0 d1
    · exact rparse2TF a0 a1 a2 w hl hr c0 c1 d0 d1
    · exact rparse2TT a0 a1 a2 w hl hr c0 c1 d0 d1
  · cases hl : lenB a0 a1 <;> cases hr : rigB a2 <;> simp only [pOk, hl, hr]
    · exact rparse3FF a0 a1 a2 w hl hr c0 c1 d0 d1
    · exact rparse3FT a0 a1 a2 w hl hr c0 c1 d0 d1
    · exact rparse3TF a0 a1 a2 w hl hr c0 c1 d0 d1
    · exact rparse3TT a0 a1 a2 w hl hr c0 c1 d0 d1
  · have : pOk 4 a0 a1 a2 = true := by simp [pOk]
    simp only [this]
    cases hl : lenB a0 a1 <;> cases hr : rigB a2
    · exact rparse4FF a0 a1 a2 w hl hr c0 c1 d0 d1
    · exact rparse4FT a0 a1 a2 w hl hr c0 c1 d0 d1
    · exact rparse4TF a0 a1 a2 w hl hr c0 c1 d0 d1
    · exact rparse4TT a0 a1 a2 w hl hr c0 c1 d0 d1
  · have : pOk 5 a0 a1 a2 = true := by simp [pOk]
    simp only [this]
    cases hl : lenB a0 a1 <;> cases hr : rigB a2
    · exact rparse5FF a0 a1 a2 w hl hr c0 c1 d0 d1
    · exact rparse5FT a0 a1 a2 w hl hr c0 c1 d0 d1
    · exact rparse5TF a0 a1 a2 w hl hr c0 c1 d0 d1
    · exact rparse5TT a0 a1 a2 w hl hr c0 c1 d0 d1
  · have : pOk 6 a0 a1 a2 = true := by simp [pOk]
    simp only [this]
    cases hl : lenB a0 a1 <;> cases hr : rigB a2
    · exact rparse6FF a0 a1 a2 w hl hr c0 c1 d0 d1
    · exact rparse6FT a0 a1 a2 w hl hr c0 c1 d0 d1
    · exact rparse6TF a0 a1 a2 w hl hr c0 c1 d0 d1
    · exact rparse6TT a0 a1 a2 w hl hr c0 c1 d0 d1
  · by_cases hb : a0 < 64
    · have : pOk 7 a0 a1 a2 = true := by simp [pOk, hb]
      simp only [this]
      cases hl : lenB a0 a1 <;> cases hr : rigB a2
      · exact rparse7TFF a0 a1 a2 w hb hl hr c0 c1 d0 d1
      · exact rparse7TFT a0 a1 a2 w hb hl hr c0 c1 d0 d1
      · exact rparse7TTF a0 a1 a2 w hb hl hr c0 c1 d0 d1
      · exact rparse7TTT a0 a1 a2 w hb hl hr c0 c1 d0 d1
    · have : pOk 7 a0 a1 a2 = false := by simp [pOk]; omega
      simp only [this, Bool.false_eq_true, false_and, if_false]
      cases hl : lenB a0 a1 <;> cases hr : rigB a2
      · exact rparse7FFF a0 a1 a2 w (by omega) hl hr c0 c1 d0 d1
      · exact rparse7FFT a0 a1 a2 w (by omega) hl hr c0 c1 d0 d1
      · exact rparse7FTF a0 a1 a2 w (by omega) hl hr c0 c1 d0 d1
      · exact rparse7FTT a0 a1 a2 w (by omega) hl hr c0 c1 d0 d1

/-- The number of a kind's call. -/
def mN (k : Int) : Int := if 1 ≤ k ∧ k ≤ 7 then k else 0
theorem number_any (k : Int) (w : World) : Calls Try.prog 20 #[.int .i8 k] w fun e w' => e = .returned (.int .u64 (mN k)) ∧ w = w' := by
  unfold mN
  have h : k = 1 ∨ k = 2 ∨ k = 3 ∨ k = 4 ∨ k = 5 ∨ k = 6 ∨ k = 7 ∨ ¬ (1 ≤ k ∧ k ≤ 7) := by omega
  rcases h with rfl | rfl | rfl | rfl | rfl | rfl | rfl | h
  · go_enter Try.func20, Try.ntmps20
    go_wp2
    go_ret
    exact ⟨rfl, rfl⟩
  · go_enter Try.func20, Try.ntmps20
    go_wp2
    go_ret
    exact ⟨rfl, rfl⟩
  · go_enter Try.func20, Try.ntmps20
    go_wp2
    go_ret
    exact ⟨rfl, rfl⟩
  · go_enter Try.func20, Try.ntmps20
    go_wp2
    go_ret
    exact ⟨rfl, rfl⟩
  · go_enter Try.func20, Try.ntmps20
    go_wp2
    go_ret
    exact ⟨rfl, rfl⟩
  · go_enter Try.func20, Try.ntmps20
    go_wp2
    go_ret
    exact ⟨rfl, rfl⟩
  · go_enter Try.func20, Try.ntmps20
    go_wp2
    go_ret
    exact ⟨rfl, rfl⟩
  · rw [if_neg h]
    have t1 : (k == 1) = false := by simp; omega
    have t2 : (k == 2) = false := by simp; omega
    have t3 : (k == 3) = false := by simp; omega
    have t4 : (k == 4) = false := by simp; omega
    have t5 : (k == 5) = false := by simp; omega
    have t6 : (k == 6) = false := by simp; omega
    have t7 : (k == 7) = false := by simp; omega
    clear h
    go_enter Try.func20, Try.ntmps20
    go_wp2
    go_ret
    exact ⟨rfl, rfl⟩

theorem u64_bd (n : Int) : 0 ≤ IntKind.u64.wrap n ∧ IntKind.u64.wrap n ≤ 18446744073709551615 := by
  rw [IntKind.wrap_u64]; omega

/-- Make's frame: its box, its result, its call; all below is as it was. -/
structure Mf (w W : World) (k f c : Int) (wr : Bool) (pc nu a0 a1 a2 : Int) : Prop where
  bx : W.heap[w.heap.size]? = some (.cells #[.int .i8 k, .int .u64 f, .int .i64 c, .bool wr, .int .i64 pc] 28 (0, 0))
  rs : W.heap[w.heap.size + 1]? = some (.cells #[.int .u64 0, .int .u64 0, .int .u64 0, .int .u64 0] 25 (0, 0))
  cl : W.heap[w.heap.size + 1 + 1]? = some (.cells #[.int .u64 nu, .int .u64 a0, .int .u64 a1, .int .u64 a2] 25 (0, 0))
  be : Below w.heap.size w W
theorem Mf.mono {w W W1 : World} {k f c : Int} {wr : Bool} {pc nu a0 a1 a2 : Int} (m : Mf w W k f c wr pc nu a0 a1 a2) (hb : Below W.heap.size W W1) : Mf w W1 k f c wr pc nu a0 a1 a2 :=
  ⟨(hb.block _ (lt_of_block m.bx)).trans m.bx, (hb.block _ (lt_of_block m.rs)).trans m.rs, (hb.block _ (lt_of_block m.cl)).trans m.cl, m.be.trans (hb.mono m.be.size)⟩
theorem heap_three (w : World) (x y z : Obj) : (((w.alloc x).alloc y).alloc z).heap[w.heap.size]? = some x ∧ (((w.alloc x).alloc y).alloc z).heap[w.heap.size + 1]? = some y ∧ (((w.alloc x).alloc y).alloc z).heap[w.heap.size + 1 + 1]? = some z := by
  refine ⟨?_, ?_, ?_⟩
  · rw [Below.heap_alloc _ _ _ (by simp; omega), Below.heap_alloc _ _ _ (by simp), heap_alloc_new]
  · rw [Below.heap_alloc _ _ _ (by simp)]
    have := heap_alloc_new (w.alloc x) y
    rwa [World.size_alloc] at this
  · have := heap_alloc_new ((w.alloc x).alloc y) z
    rwa [World.size_alloc, World.size_alloc] at this
theorem Mf.start (w : World) (k f c : Int) (wr : Bool) (pc nu a0 a1 a2 : Int) : Mf w (((w.alloc (.cells #[.int .i8 k, .int .u64 f, .int .i64 c, .bool wr, .int .i64 pc] 28)).alloc (.cells #[.int .u64 0, .int .u64 0, .int .u64 0, .int .u64 0] 25)).alloc (.cells #[.int .u64 nu, .int .u64 a0, .int .u64 a1, .int .u64 a2] 25)) k f c wr pc nu a0 a1 a2 :=
  ⟨(heap_three _ _ _ _).1, (heap_three _ _ _ _).2.1, (heap_three _ _ _ _).2.2, (((Below.refl _ _).alloc (Nat.le_refl _) _).alloc (by simp) _).alloc (by simp; omega) _⟩
theorem Mf.drew {w W : World} {k f c : Int} {wr : Bool} {pc nu a0 a1 a2 : Int} (m : Mf w W k f c wr pc nu a0 a1 a2) : Mf w W.drew k f c wr pc nu a0 a1 a2 := ⟨m.bx, m.rs, m.cl, m.be.drew⟩
theorem Mf.all {w W : World} {k f c : Int} {wr : Bool} {pc nu a0 a1 a2 : Int} (m : Mf w W k f c wr pc nu a0 a1 a2) :
    (W.cell? ⟨w.heap.size, 0, none⟩ = some (.int .i8 k) ∧ W.cell? ⟨w.heap.size, 1, none⟩ = some (.int .u64 f) ∧ W.cell? ⟨w.heap.size, 2, none⟩ = some (.int .i64 c) ∧ W.cell? ⟨w.heap.size, 3, none⟩ = some (.bool wr) ∧ W.cell? ⟨w.heap.size, 4, none⟩ = some (.int .i64 pc)) ∧
    (W.cell? ⟨w.heap.size + 1, 0, none⟩ = some (.int .u64 0) ∧ W.cell? ⟨w.heap.size + 1, 1, none⟩ = some (.int .u64 0) ∧ W.cell? ⟨w.heap.size + 1, 2, none⟩ = some (.int .u64 0) ∧ W.cell? ⟨w.heap.size + 1, 3, none⟩ = some (.int .u64 0)) ∧
    (W.frozen? ⟨w.heap.size + 1, 0, none⟩ = false ∧ W.frozen? ⟨w.heap.size + 1, 1, none⟩ = false ∧ W.frozen? ⟨w.heap.size + 1, 2, none⟩ = false ∧ W.frozen? ⟨w.heap.size + 1, 3, none⟩ = false) ∧
    (W.cell? ⟨w.heap.size + 1 + 1, 0, none⟩ = some (.int .u64 nu) ∧ W.cell? ⟨w.heap.size + 1 + 1, 1, none⟩ = some (.int .u64 a0) ∧ W.cell? ⟨w.heap.size + 1 + 1, 2, none⟩ = some (.int .u64 a1) ∧ W.cell? ⟨w.heap.size + 1 + 1, 3, none⟩ = some (.int .u64 a2)) ∧
    (w.heap.size < W.heap.size ∧ w.heap.size + 1 < W.heap.size ∧ w.heap.size + 1 + 1 < W.heap.size) := by
  have h1 := m.bx; have h2 := m.rs; have h3 := m.cl
  exact ⟨by simp [World.cell?, h1], by simp [World.cell?, h2], by simp [World.frozen?, h2], by simp [World.cell?, h3], lt_of_block m.bx, lt_of_block m.rs, lt_of_block m.cl⟩

/-- Are two requests one? -/
def eqR (k f c : Int) (wr : Bool) (pc k' f' c' : Int) (wr' : Bool) (pc' : Int) : Bool := (k == k') && ((f == f') && ((c == c') && ((wr == wr') && (pc == pc'))))
end Go.Proofs.Ytgfnefcgpdkljaa
