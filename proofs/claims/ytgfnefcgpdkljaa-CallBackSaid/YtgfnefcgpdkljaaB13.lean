/- Layer 21: Make of both, as one plain function. -/
import Derived.Test.YtgfnefcgpdkljaaB10
import Derived.Test.YtgfnefcgpdkljaaB11
import Derived.Test.YtgfnefcgpdkljaaB12
namespace Go.Proofs.Ytgfnefcgpdkljaa
open Go.ChangeShapes Go.WideShapes Go.ChangeAt Go.RowKit
set_option linter.unusedVariables false

/-- The arguments of the call that is tried. -/
def mA0 (k f pc : Int) : Int := if k = 1 ∨ k = 2 ∨ k = 3 then IntKind.u64.wrap (f * 4096) else if k = 7 then IntKind.u64.wrap pc else 0
def mA1 (k c : Int) : Int := if k = 1 ∨ k = 2 ∨ k = 3 then IntKind.u64.wrap (IntKind.u64.wrap c * 4096) else 0
def mA2 (k : Int) (wr : Bool) : Int := if k = 1 ∨ k = 3 then (match wr with | true => 3 | false => 1) else 0
def HitsM (k f c : Int) (wr : Bool) (pc : Int) : Prop := Hits (mN k) (mA0 k f pc) (mA1 k c) (mA2 k wr) k f c wr pc

theorem wrap_id {n : Int} (h0 : 0 ≤ n) (h1 : n ≤ 18446744073709551615) : IntKind.u64.wrap n = n := by
  rw [IntKind.wrap_u64]; omega

theorem pE_zero {nu a0 a1 a2 : Int} (h : pE nu a0 a1 a2 = 0) : pOk nu a0 a1 a2 = true := by
  unfold pE at h
  by_cases hp : pOk nu a0 a1 a2 = true
  · exact hp
  · rw [if_neg hp] at h; omega
theorem pOk_len {nu a0 a1 a2 : Int} (h : pOk nu a0 a1 a2 = true) (hn : nu = 1 ∨ nu = 2 ∨ nu = 3) : lenB a0 a1 = true := by
  rcases hn with rfl | rfl | rfl <;> simp [pOk] at h
  · exact h.1
  · exact h
  · exact h.1

theorem hits_range {k f c pc a2 : Int} {wr : Bool} (hk : k = 1 ∨ k = 2 ∨ k = 3) (f0 : 0 ≤ f) (h : Hits k (IntKind.u64.wrap (f * 4096)) (IntKind.u64.wrap (IntKind.u64.wrap c * 4096)) a2 k f c wr pc) : f < 34359738368 ∧ 1 ≤ c ∧ c ≤ 1048576 := by
  have hok := pE_zero h.e
  obtain ⟨h1, h2, h3, h4, h5⟩ := lenB_true (pOk_len hok hk)
  have b0 := u64_bd (f * 4096)
  have b1 := u64_bd (IntKind.u64.wrap c * 4096)
  have e1 := h.f
  have e2 := h.c
  simp only [pF, hok, true_and] at e1
  simp only [pC, hok, true_and] at e2
  rw [if_pos (by omega)] at e1 e2
  omega

theorem hits_pc {f c pc : Int} {wr : Bool} (h : Hits 7 (IntKind.u64.wrap pc) 0 0 7 f c wr pc) : 0 ≤ pc := by
  have hok := pE_zero h.e
  have e1 := h.p
  simp only [pP, hok, true_and, if_true] at e1
  have := u64_bd pc
  omega

theorem hits_none {k f c pc : Int} {wr : Bool} : ¬ Hits 0 0 0 0 k f c wr pc := by
  intro h
  have := h.e
  revert this
  decide

theorem make_T (k f c pc : Int) (wr : Bool) (w : World) (f0 : 0 ≤ f) (f1 : f ≤ 18446744073709551615) (h : HitsM k f c wr pc) :
    Calls Try.prog 14 #[.agg #[.int .i8 k, .int .u64 f, .int .i64 c, .bool wr, .int .i64 pc]] w fun e w' => e = .returned (.tuple #[.agg #[.int .u64 (mN k), .int .u64 (mA0 k f pc), .int .u64 (mA1 k c), .int .u64 (mA2 k wr)], .int .i64 0]) ∧ Below w.heap.size w w' := by
  unfold HitsM at h
  have hk : k = 1 ∨ k = 2 ∨ k = 3 ∨ k = 4 ∨ k = 5 ∨ k = 6 ∨ k = 7 ∨ ¬ (1 ≤ k ∧ k ≤ 7) := by omega
  rcases hk with rfl | rfl | rfl | rfl | rfl | rfl | rfl | hk
  · cases wr
    · exact make1rT f c pc w h f0 f1
    · exact make1wT f c pc w h f0 f1
  · exact make2T f c pc wr w h f0 f1
  · cases wr
    · exact make3rT f c pc w h f0 f1
    · exact make3wT f c pc w h f0 f1
  · exact make4T f c pc wr w h f0 f1
  · exact make5T f c pc wr w h f0 f1
  · exact make6T f c pc wr w h f0 f1
  · exact make7T f c pc wr w h f0 f1
  · exfalso
    simp only [mN, mA0, mA1, mA2] at h
    rw [if_neg hk, if_neg (by omega), if_neg (by omega), if_neg (by omega), if_neg (by omega)] at h
    exact hits_none h

theorem make_F (k f c pc : Int) (wr : Bool) (w : World) (f0 : 0 ≤ f) (f1 : f ≤ 18446744073709551615) (h : ¬ HitsM k f c wr pc) :
    Calls Try.prog 14 #[.agg #[.int .i8 k, .int .u64 f, .int .i64 c, .bool wr, .int .i64 pc]] w fun e w' => e = .returned (.tuple #[.agg #[.int .u64 0, .int .u64 0, .int .u64 0, .int .u64 0], .int .i64 210]) ∧ Below w.heap.size w w' := by
  unfold HitsM at h
  have hk : k = 1 ∨ k = 2 ∨ k = 3 ∨ k = 4 ∨ k = 5 ∨ k = 6 ∨ k = 7 ∨ ¬ (1 ≤ k ∧ k ≤ 7) := by omega
  rcases hk with rfl | rfl | rfl | rfl | rfl | rfl | rfl | hk
  · cases wr
    · exact make1rF f c pc w h f0 f1
    · exact make1wF f c pc w h f0 f1
  · exact make2F f c pc wr w h f0 f1
  · cases wr
    · exact make3rF f c pc w h f0 f1
    · exact make3wF f c pc w h f0 f1
  · exact make4F f c pc wr w h f0 f1
  · exact make5F f c pc wr w h f0 f1
  · exact make6F f c pc wr w h f0 f1
  · exact make7F f c pc wr w h f0 f1
  · exact makeNF k f c pc wr w hk hits_none f0 f1

theorem rmake_T (k f c pc : Int) (wr : Bool) (w : World) (f0 : 0 ≤ f) (f1 : f ≤ 18446744073709551615) (h : HitsM k f c wr pc) (p1 : pc ≤ 9223372036854775807) :
    Calls Try.prog 15 #[.agg #[.int .i8 k, .int .u64 f, .int .i64 c, .bool wr, .int .i64 pc]] w fun e w' => e = .returned (.tuple #[.agg #[.int .u64 (mN k), .int .u64 (mA0 k f pc), .int .u64 (mA1 k c), .int .u64 (mA2 k wr)], .int .i64 0]) ∧ Below w.heap.size w w' := by
  unfold HitsM at h
  have hk : k = 1 ∨ k = 2 ∨ k = 3 ∨ k = 4 ∨ k = 5 ∨ k = 6 ∨ k = 7 ∨ ¬ (1 ≤ k ∧ k ≤ 7) := by omega
  rcases hk with rfl | rfl | rfl | rfl | rfl | rfl | rfl | hk
  · have h' : Hits 1 (IntKind.u64.wrap (f * 4096)) (IntKind.u64.wrap (IntKind.u64.wrap c * 4096)) (mA2 1 wr) 1 f c wr pc := h
    obtain ⟨g1, g2, g3⟩ := hits_range (by omega) f0 h'
    have e0 : mA0 1 f pc = f * 4096 := wrap_id (by omega) (by omega)
    have e1 : mA1 1 c = c * 4096 := by
      show IntKind.u64.wrap (IntKind.u64.wrap c * 4096) = _
      rw [wrap_id (n := c) (by omega) (by omega), wrap_id (by omega) (by omega)]
    rw [e0, e1] at h ⊢
    cases wr
    · exact rmake1rT f c pc w g1 g2 g3 h f0 f1
    · exact rmake1wT f c pc w g1 g2 g3 h f0 f1
  · have h' : Hits 2 (IntKind.u64.wrap (f * 4096)) (IntKind.u64.wrap (IntKind.u64.wrap c * 4096)) (mA2 2 wr) 2 f c wr pc := h
    obtain ⟨g1, g2, g3⟩ := hits_range (by omega) f0 h'
    have e0 : mA0 2 f pc = f * 4096 := wrap_id (by omega) (by omega)
    have e1 : mA1 2 c = c * 4096 := by
      show IntKind.u64.wrap (IntKind.u64.wrap c * 4096) = _
      rw [wrap_id (n := c) (by omega) (by omega), wrap_id (by omega) (by omega)]
    rw [e0, e1] at h ⊢
    exact rmake2T f c pc wr w g1 g2 g3 h f0 f1
  · have h' : Hits 3 (IntKind.u64.wrap (f * 4096)) (IntKind.u64.wrap (IntKind.u64.wrap c * 4096)) (mA2 3 wr) 3 f c wr pc := h
    obtain ⟨g1, g2, g3⟩ := hits_range (by omega) f0 h'
    have e0 : mA0 3 f pc = f * 4096 := wrap_id (by omega) (by omega)
    have e1 : mA1 3 c = c * 4096 := by
      show IntKind.u64.wrap (IntKind.u64.wrap c * 4096) = _
      rw [wrap_id (n := c) (by omega) (by omega), wrap_id (by omega) (by omega)]
    rw [e0, e1] at h ⊢
    cases wr
    · exact rmake3rT f c pc w g1 g2 g3 h f0 f1
    · exact rmake3wT f c pc w g1 g2 g3 h f0 f1
  · exact rmake4T f c pc wr w h f0 f1
  · exact rmake5T f c pc wr w h f0 f1
  · exact rmake6T f c pc wr w h f0 f1
  · have hp := hits_pc (show Hits 7 (IntKind.u64.wrap pc) 0 0 7 f c wr pc from h)
    have e0 : mA0 7 f pc = pc := wrap_id (by omega) (by omega)
    rw [e0] at h ⊢
    exact rmake7T f c pc wr w hp p1 h f0 f1
  · exfalso
    simp only [mN, mA0, mA1, mA2] at h
    rw [if_neg hk, if_neg (by omega), if_neg (by omega), if_neg (by omega), if_neg (by omega)] at h
    exact hits_none h

theorem rmake_F (k f c pc : Int) (wr : Bool) (w : World) (f0 : 0 ≤ f) (f1 : f ≤ 18446744073709551615) (h : ¬ HitsM k f c wr pc) (p1 : pc ≤ 9223372036854775807) :
    Calls Try.prog 15 #[.agg #[.int .i8 k, .int .u64 f, .int .i64 c, .bool wr, .int .i64 pc]] w fun e w' => e = .returned (.tuple #[.agg #[.int .u64 0, .int .u64 0, .int .u64 0, .int .u64 0], .int .i64 210]) ∧ Below w.heap.size w w' := by
  unfold HitsM at h
  have hk : k = 1 ∨ k = 2 ∨ k = 3 ∨ k = 4 ∨ k = 5 ∨ k = 6 ∨ k = 7 ∨ ¬ (1 ≤ k ∧ k ≤ 7) := by omega
  have hr : (34359738368 ≤ f) ∨ (f < 34359738368 ∧ c < 1) ∨ (f < 34359738368 ∧ 1 ≤ c ∧ 1048576 < c) ∨ (f < 34359738368 ∧ 1 ≤ c ∧ c ≤ 1048576) := by omega
  have e1 : 1 ≤ c → c ≤ 1048576 → IntKind.u64.wrap (IntKind.u64.wrap c * 4096) = c * 4096 := fun _ _ => by
    rw [wrap_id (n := c) (by omega) (by omega), wrap_id (by omega) (by omega)]
  have e0 : f < 34359738368 → IntKind.u64.wrap (f * 4096) = f * 4096 := fun _ => wrap_id (by omega) (by omega)
  rcases hk with rfl | rfl | rfl | rfl | rfl | rfl | rfl | hk
  · rcases hr with g | ⟨g, g2⟩ | ⟨g, g2, g3⟩ | ⟨g, g2, g3⟩
    · exact rmake1b1 f c pc wr w g f0 f1
    · exact rmake1b2 f c pc wr w g g2 f0 f1
    · exact rmake1b3 f c pc wr w g g2 g3 f0 f1
    · rw [show mA0 1 f pc = f * 4096 from e0 g, show mA1 1 c = c * 4096 from e1 g2 g3] at h
      cases wr
      · exact rmake1rF f c pc w g g2 g3 h f0 f1
      · exact rmake1wF f c pc w g g2 g3 h f0 f1
  · rcases hr with g | ⟨g, g2⟩ | ⟨g, g2, g3⟩ | ⟨g, g2, g3⟩
    · exact rmake2b1 f c pc wr w g f0 f1
    · exact rmake2b2 f c pc wr w g g2 f0 f1
    · exact rmake2b3 f c pc wr w g g2 g3 f0 f1
    · rw [show mA0 2 f pc = f * 4096 from e0 g, show mA1 2 c = c * 4096 from e1 g2 g3] at h
      exact rmake2F f c pc wr w g g2 g3 h f0 f1
  · rcases hr with g | ⟨g, g2⟩ | ⟨g, g2, g3⟩ | ⟨g, g2, g3⟩
    · exact rmake3b1 f c pc wr w g f0 f1
    · exact rmake3b2 f c pc wr w g g2 f0 f1
    · exact rmake3b3 f c pc wr w g g2 g3 f0 f1
    · rw [show mA0 3 f pc = f * 4096 from e0 g, show mA1 3 c = c * 4096 from e1 g2 g3] at h
      cases wr
      · exact rmake3rF f c pc w g g2 g3 h f0 f1
      · exact rmake3wF f c pc w g g2 g3 h f0 f1
  · exact rmake4F f c pc wr w h f0 f1
  · exact rmake5F f c pc wr w h f0 f1
  · exact rmake6F f c pc wr w h f0 f1
  · by_cases hp : pc < 0
    · exact rmake7b f c pc wr w hp f0 f1
    · rw [show mA0 7 f pc = pc from wrap_id (by omega) (by omega)] at h
      exact rmake7F f c pc wr w (by omega) p1 h f0 f1
  · exact rmakeNF k f c pc wr w hk hits_none f0 f1
end Go.Proofs.Ytgfnefcgpdkljaa
