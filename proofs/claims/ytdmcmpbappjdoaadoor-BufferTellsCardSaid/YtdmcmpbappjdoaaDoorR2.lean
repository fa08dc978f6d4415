/- Layer 9: the document's names, Touch. -/
import Derived.Test.YtdmcmpbappjdoaaDoorR1
namespace Go.Proofs.YtdmcmpbappjdoaaDoor
open Go.ChangeShapes Go.WideShapes Go.ChangeAt Go.RowKit
set_option linter.unusedVariables false
set_option linter.unusedSimpArgs false

def refN (b : Ent) (frame word : Int) (all : Bool) : Bool := if b.k = 0 then (b.wd / 512 == frame && (all || b.wd == word)) else if b.k = 2 then b.fm == frame else if b.k = 3 then (b.fm == frame || b.fr == frame) else false
def refT (a b : Ent) : Bool := if a.k = 0 then refN b (a.wd / 512) a.wd false else if a.k = 2 then refN b a.fm 0 true else if a.k = 3 then (refN b a.fm 0 true || refN b a.fr 0 true) else false
theorem touch_ref {a b : Ent} (ha : mayB a = true) (hb : mayB b = true) : touchB a b = refT a b := by
  obtain ⟨K, hK, hK4⟩ := may_K ha
  obtain ⟨L, hL, hL4⟩ := may_K hb
  have fa := may_fm ha
  have fb := may_fm hb
  have ht : touchB a b = anyT (names a) (names b) := by simp [touchB, ha, hb]
  rw [ht]
  clear ht ha hb
  obtain ⟨ak, awd, av, afr, afm⟩ := a
  obtain ⟨bk, bwd, bv, bfr, bfm⟩ := b
  simp only at hK hL fa fb
  subst hK hL
  rw [Bool.eq_iff_iff]
  rcases (show K = 0 ∨ K = 1 ∨ K = 2 ∨ K = 3 by omega) with rfl | rfl | rfl | rfl <;> rcases (show L = 0 ∨ L = 1 ∨ L = 2 ∨ L = 3 by omega) with rfl | rfl | rfl | rfl <;> simp [anyT, names, tch, fst, refT, refN] <;> omega

set_option maxHeartbeats 1000000 in
theorem rnames_ok (b : Ent) (frame word : Int) (all : Bool) (w : World) (hm : mayB b = true) (ho : b.ok) : Calls Tryd.prog 29 #[b.agg, .int .u64 frame, .int .u64 word, .bool all] w fun ε w' => ε = .returned (.bool (refN b frame word all)) ∧ Below w.heap.size w w' := by
  obtain ⟨K, hK, hK4⟩ := may_K hm
  obtain ⟨m0, m1, r0, r1⟩ := may_fm hm
  have w0 := ho.w0
  have w1 := ho.w1
  obtain ⟨k, wd, v, fr, fm⟩ := b
  simp only at hK m0 m1 r0 r1 w0 w1
  subst hK
  have hu : IntKind.u64.wrap fm = fm := by rw [IntKind.wrap_u64]; omega
  have hv : IntKind.u64.wrap fr = fr := by rw [IntKind.wrap_u64]; omega
  clear hm ho
  unfold Ent.agg
  simp only
  rcases (show K = 0 ∨ K = 1 ∨ K = 2 ∨ K = 3 by omega) with rfl | rfl | rfl | rfl
  · cases c1 : (wd / 512 == frame)
    · have HR := Lib.hid (show refN ⟨0, wd, v, fr, fm⟩ frame word all = false by simp [refN, c1])
      go_enter Tryd.func29, Tryd.ntmps29
      go_wp2_with fail
      go_ret
      exact ⟨congrArg (fun b => Ending.returned (.bool b)) HR.out.symm, (Below.refl _ _).alloc (Nat.le_refl _) _⟩
    · cases all
      · cases c2 : (wd == word)
        · have HR := Lib.hid (show refN ⟨0, wd, v, fr, fm⟩ frame word false = false by simp [refN, c2])
          go_enter Tryd.func29, Tryd.ntmps29
          go_wp2_with fail
          go_ret
          exact ⟨congrArg (fun b => Ending.returned (.bool b)) HR.out.symm, (Below.refl _ _).alloc (Nat.le_refl _) _⟩
        · have HR := Lib.hid (show refN ⟨0, wd, v, fr, fm⟩ frame word false = true by simp [refN, c1, c2])
          go_enter Tryd.func29, Tryd.ntmps29
          go_wp2_with fail
          go_ret
          exact ⟨congrArg (fun b => Ending.returned (.bool b)) HR.out.symm, (Below.refl _ _).alloc (Nat.le_refl _) _⟩
      · have HR := Lib.hid (show refN ⟨0, wd, v, fr, fm⟩ frame word true = true by simp [refN, c1])
        go_enter Tryd.func29, Tryd.ntmps29
        go_wp2_with fail
        go_ret
        exact ⟨congrArg (fun b => Ending.returned (.bool b)) HR.out.symm, (Below.refl _ _).alloc (Nat.le_refl _) _⟩
  · have HR := Lib.hid (show refN ⟨1, wd, v, fr, fm⟩ frame word all = false by simp [refN])
    go_enter Tryd.func29, Tryd.ntmps29
    go_wp2_with fail
    go_ret
    exact ⟨congrArg (fun b => Ending.returned (.bool b)) HR.out.symm, (Below.refl _ _).alloc (Nat.le_refl _) _⟩
  · have HR := Lib.hid (show refN ⟨2, wd, v, fr, fm⟩ frame word all = (fm == frame) by simp [refN])
    go_enter Tryd.func29, Tryd.ntmps29
    go_wp2_with fail
    go_ret
    exact ⟨congrArg (fun b => Ending.returned (.bool b)) HR.out.symm, (Below.refl _ _).alloc (Nat.le_refl _) _⟩
  · cases c1 : (fm == frame)
    · have HR := Lib.hid (show refN ⟨3, wd, v, fr, fm⟩ frame word all = (fr == frame) by simp [refN, c1])
      go_enter Tryd.func29, Tryd.ntmps29
      go_wp2_with fail
      go_ret
      exact ⟨congrArg (fun b => Ending.returned (.bool b)) HR.out.symm, (Below.refl _ _).alloc (Nat.le_refl _) _⟩
    · have HR := Lib.hid (show refN ⟨3, wd, v, fr, fm⟩ frame word all = true by simp [refN, c1])
      go_enter Tryd.func29, Tryd.ntmps29
      go_wp2_with fail
      go_ret
      exact ⟨congrArg (fun b => Ending.returned (.bool b)) HR.out.symm, (Below.refl _ _).alloc (Nat.le_refl _) _⟩

set_option maxHeartbeats 2000000 in
theorem rtouch_ok (a b : Ent) (w : World) (ha : a.ok) (hb : b.ok) : Calls Tryd.prog 21 #[a.agg, b.agg] w fun ε w' => ε = .returned (.bool (touchB a b)) ∧ Below w.heap.size w w' := by
  have HA := Lib.hid ha; have HB := Lib.hid hb
  have w0 := ha.w0
  have w1 := ha.w1
  clear ha hb
  have BB := Lib.hid (((Below.refl w.heap.size w).alloc (Nat.le_refl _) (.cells #[.int .i8 a.k, .int .u64 a.wd, .int .u64 a.v, .int .i64 a.fr, .int .i64 a.fm] 31)).alloc (by simp) (.cells #[.int .i8 b.k, .int .u64 b.wd, .int .u64 b.v, .int .i64 b.fr, .int .i64 b.fm] 31))
  go_enter Tryd.func21, Tryd.ntmps21
  go_wp2_with fail
  refine (rmay_ok a _ HA.out).mono ?_
  rintro ε w1' ⟨rfl, hb1⟩
  have B1 := Lib.hid (BB.out.trans (hb1.mono (by simp; omega)))
  have HB1 := Lib.hid (show Below (w.heap.size + 2) _ w1' from hb1.mono (by simp))
  have hz1 : w.heap.size + 2 ≤ w1'.heap.size := by have := hb1.size; simp at this; omega
  have hc1 := oldc HB1.out
  clear hb1
  cases hma : mayB a
  · have HT := Lib.hid (show touchB a b = false by simp [touchB, hma])
    go_wp2_with fail
    go_ret
    exact ⟨by rw [HT.out]; rfl, B1.out⟩
  · have HMA := Lib.hid hma
    clear hma
    go_wp2_with fail
    refine (rmay_ok b _ HB.out).mono ?_
    rintro ε w2 ⟨rfl, hb2⟩
    have B2 := Lib.hid (B1.out.trans (hb2.mono (by omega)))
    have HB2 := Lib.hid (HB1.out.trans (hb2.mono (by omega)))
    have hz2 : w.heap.size + 2 ≤ w2.heap.size := by have := hb2.size; omega
    have hc2 := oldc HB2.out
    clear hb2 hc1
    cases hmb : mayB b
    · have HT := Lib.hid (show touchB a b = false by simp [touchB, hmb])
      go_wp2_with fail
      go_ret
      exact ⟨by rw [HT.out]; rfl, B2.out⟩
    · have HMB := Lib.hid hmb
      clear hmb
      have HT0 := Lib.hid (touch_ref HMA.out HMB.out)
      obtain ⟨K, hK, hK4⟩ := may_K HMA.out
      obtain ⟨m0, m1, r0, r1⟩ := may_fm HMA.out
      have hu : IntKind.u64.wrap a.fm = a.fm := by rw [IntKind.wrap_u64]; omega
      have hv : IntKind.u64.wrap a.fr = a.fr := by rw [IntKind.wrap_u64]; omega
      rcases (show K = 0 ∨ K = 1 ∨ K = 2 ∨ K = 3 by omega) with rfl | rfl | rfl | rfl
      · have HT := Lib.hid (HT0.out.trans (show refT a b = refN b (a.wd / 512) a.wd false by simp [refT, hK]))
        have d0 : (a.k == 0) = true := by simp [hK]
        clear hK
        go_wp2_with fail
        refine (rnames_ok b (a.wd / 512) a.wd false _ HMB.out HB.out).mono ?_
        rintro ε w3 ⟨rfl, hb3⟩
        have B3 := Lib.hid (B2.out.trans (hb3.mono (by omega)))
        clear hb3 hc2
        go_wp2_with fail
        go_ret
        exact ⟨by rw [HT.out]; rfl, B3.out⟩
      · have HT := Lib.hid (HT0.out.trans (show refT a b = false by simp [refT, hK]))
        have d0 : (a.k == 0) = false := by simp [hK]
        have d2 : (a.k == 2) = false := by simp [hK]
        have d3 : (a.k == 3) = false := by simp [hK]
        clear hK
        go_wp2_with fail
        go_ret
        exact ⟨by rw [HT.out]; rfl, B2.out⟩
      · have HT := Lib.hid (HT0.out.trans (show refT a b = refN b a.fm 0 true by simp [refT, hK]))
        have d0 : (a.k == 0) = false := by simp [hK]
        have d2 : (a.k == 2) = true := by simp [hK]
        have f0 : decide (0 ≤ a.fm) = true := by simpa using m0
        clear hK
        go_wp2_with fail
        refine (rnames_ok b a.fm 0 true _ HMB.out HB.out).mono ?_
        rintro ε w3 ⟨rfl, hb3⟩
        have B3 := Lib.hid (B2.out.trans (hb3.mono (by omega)))
        clear hb3 hc2
        go_wp2_with fail
        go_ret
        exact ⟨by rw [HT.out]; rfl, B3.out⟩
      · have HT := Lib.hid (HT0.out.trans (show refT a b = (refN b a.fm 0 true || refN b a.fr 0 true) by simp [refT, hK]))
        have d0 : (a.k == 0) = false := by simp [hK]
        have d2 : (a.k == 2) = false := by simp [hK]
        have d3 : (a.k == 3) = true := by simp [hK]
        have f0 : decide (0 ≤ a.fm) = true := by simpa using m0
        have g0 : decide (0 ≤ a.fr) = true := by simpa using r0
        clear hK
        go_wp2_with fail
        refine (rnames_ok b a.fm 0 true _ HMB.out HB.out).mono ?_
        rintro ε w3 ⟨rfl, hb3⟩
        have B3 := Lib.hid (B2.out.trans (hb3.mono (by omega)))
        have HB3 := Lib.hid (HB2.out.trans (hb3.mono (by omega)))
        have hz3 : w.heap.size + 2 ≤ w3.heap.size := by have := hb3.size; omega
        have hc3 := oldc HB3.out
        clear hb3 hc2
        cases hx : refN b a.fm 0 true
        · go_wp2_with fail
          refine (rnames_ok b a.fr 0 true _ HMB.out HB.out).mono ?_
          rintro ε w4 ⟨rfl, hb4⟩
          have B4 := Lib.hid (B3.out.trans (hb4.mono (by omega)))
          clear hb4 hc3
          go_wp2_with fail
          go_ret
          exact ⟨by rw [HT.out, hx]; rfl, B4.out⟩
        · go_wp2_with fail
          go_ret
          exact ⟨by rw [HT.out, hx]; rfl, B3.out⟩
theorem touch_symm (a b : Ent) : touchB b a = touchB a b := by
  rw [Bool.eq_iff_iff]
  simp only [touchB, anyT, tch, Bool.and_eq_true, List.any_eq_true, decide_eq_true_eq]
  constructor
  · rintro ⟨⟨h1, h2⟩, x, hx, y, hy, h3, h4⟩
    exact ⟨⟨h2, h1⟩, y, hy, x, hx, h4, h3⟩
  · rintro ⟨⟨h1, h2⟩, x, hx, y, hy, h3, h4⟩
    exact ⟨⟨h2, h1⟩, y, hy, x, hx, h4, h3⟩
end Go.Proofs.YtdmcmpbappjdoaaDoor
