/- Layer 9: Touch. -/
import Derived.Test.YtdmcmpbappjdoaaDoorD3
namespace Go.Proofs.YtdmcmpbappjdoaaDoor
open Go.ChangeShapes Go.WideShapes Go.ChangeAt Go.RowKit
set_option linter.unusedVariables false

def tch (x y : Int × Int) : Bool := decide (x.1 ≤ y.2) && decide (y.1 ≤ x.2)
def anyT (xs ys : List (Int × Int)) : Bool := xs.any fun x => ys.any fun y => tch x y
def touchB (a b : Ent) : Bool := mayB a && mayB b && anyT (names a) (names b)
theorem any_sn {l : List (Int × Int)} {p : Int × Int → Bool} {i : Nat} (hi : i < l.length) (h : p (sn l i) = true) : l.any p = true := by
  rw [List.any_eq_true]
  refine ⟨sn l i, ?_, h⟩
  unfold sn
  rw [List.getElem?_eq_getElem hi]
  exact List.getElem_mem hi
theorem none_sn {l : List (Int × Int)} {p : Int × Int → Bool} (h : ∀ i, i < l.length → p (sn l i) = false) : l.any p = false := by
  rw [List.any_eq_false]
  intro x hx
  obtain ⟨i, hi, rfl⟩ := List.getElem_of_mem hx
  have := h i hi
  unfold sn at this
  rw [List.getElem?_eq_getElem hi] at this
  simpa using this
theorem names_le (e : Ent) : (names e).length ≤ 2 := by
  unfold names
  split
  · simp
  · split
    · simp
    · split <;> simp

set_option maxHeartbeats 1000000 in
theorem touch_ok (a b : Ent) (w : World) (hk : TK w) (ha : a.ok) (hb : b.ok) : Calls Tryd.prog 20 #[a.agg, b.agg] w fun ε w' => ε = .returned (.bool (touchB a b)) ∧ Below w.heap.size w w' := by
  have HK := Lib.hid hk; have HA := Lib.hid ha; have HB := Lib.hid hb
  clear hk ha hb
  have BB := Lib.hid (((Below.refl w.heap.size w).alloc (Nat.le_refl _) (.cells #[.int .i8 a.k, .int .u64 a.wd, .int .u64 a.v, .int .i64 a.fr, .int .i64 a.fm] 31)).alloc (by simp) (.cells #[.int .i8 b.k, .int .u64 b.wd, .int .u64 b.v, .int .i64 b.fr, .int .i64 b.fm] 31))
  go_enter Tryd.func20, Tryd.ntmps20
  go_wp2_with fail
  refine (may_ok a _ (HK.out.below (BB.out.mono (Nat.le_refl _))) HA.out).mono ?_
  rintro ε w1 ⟨rfl, hb1⟩
  have B1 := Lib.hid (BB.out.trans (hb1.mono (by simp; omega)))
  have HB1 := Lib.hid (show Below (w.heap.size + 2) _ w1 from hb1.mono (by simp))
  have hz1 : w.heap.size + 2 ≤ w1.heap.size := by have := hb1.size; simp at this; omega
  have hc1 := oldc HB1.out
  clear hb1
  cases hma : mayB a
  · have HT := Lib.hid (show touchB a b = false by simp [touchB, hma])
    go_wp2_with fail
    go_ret
    exact ⟨by rw [HT.out]; rfl, B1.out⟩
  · have HMA := Lib.hid hma
    clear hma
    go_wp2_with fail
    refine (may_ok b _ (HK.out.below B1.out) HB.out).mono ?_
    rintro ε w2 ⟨rfl, hb2⟩
    have B2 := Lib.hid (B1.out.trans (hb2.mono (by omega)))
    have HB2 := Lib.hid (HB1.out.trans (hb2.mono (by omega)))
    have hz2 : w1.heap.size ≤ w2.heap.size := hb2.size
    have hc2 := oldc HB2.out
    clear hb2 hc1
    cases hmb : mayB b
    · have HT := Lib.hid (show touchB a b = false by simp [touchB, hmb])
      go_wp2_with fail
      go_ret
      exact ⟨by rw [HT.out]; rfl, B2.out⟩
    · have HMB := Lib.hid hmb
      clear hmb
      have HT0 := Lib.hid (show touchB a b = anyT (names a) (names b) by simp [touchB, HMA.out, HMB.out])
      go_wp2_with fail
      refine (named_ok a _ (HK.out.below B2.out) HA.out HMA.out).mono ?_
      intro ε w3 hp
      obtain ⟨ao, cap, rfl, hs3, hb3⟩ := hp
      have HS3 := Lib.hid hs3
      have B3 := Lib.hid (B2.out.trans (hb3.mono (by omega)))
      have HB3 := Lib.hid (HB2.out.trans (hb3.mono (by omega)))
      have hz3 : w2.heap.size ≤ w3.heap.size := hb3.size
      clear hb3 hs3 hc2
      have hla := names_le a
      have hlb := names_le b
      obtain ⟨na, hna⟩ : ∃ na, na = (names a).length := ⟨_, rfl⟩
      have HNA := Lib.hid hna
      rw [← hna] at hla ⊢
      clear hna
      go_wp2_with fail
      go_loopw [20] (fun i wr => ∃ q : Nat, q ≤ na ∧ i = .int .i64 q ∧ (∀ j, j < q → (names b).any (tch (sn (names a) j)) = false) ∧ Below w3.heap.size w3 wr) (fun i _ => 2 - (intOf i).toNat)
      case atStart => exact ⟨0, by omega, rfl, fun j hj => by omega, Below.refl _ _⟩
      case round =>
        obtain ⟨q, hq, rfl, hno, hbr⟩ := hrel
        have HNO := Lib.hid hno; have HBR := Lib.hid hbr
        have hzr : w3.heap.size ≤ wr.heap.size := hbr.size
        clear hno hbr
        by_cases hqn : q < na
        · obtain ⟨g, rfl, x1, x2⟩ := (HS3.out.below HBR.out) q (by have := HNA.out; omega)
          have HBa := Lib.hid (HB3.out.trans (HBR.out.mono (by omega)))
          have hca := oldc HBa.out
          have hwlt : w.heap.size + 1 < wr.heap.size := by omega
          go_wp2_with fail
          have BX := Lib.hid ((HB3.out.trans (HBR.out.mono (by omega))).alloc (by omega) (.cells #[.int .u64 (sn (names a) q).1, .int .u64 (sn (names a) q).2] 53))
          have BY := Lib.hid ((B3.out.trans (HBR.out.mono (by omega))).alloc (by omega) (.cells #[.int .u64 (sn (names a) q).1, .int .u64 (sn (names a) q).2] 53))
          have BZ := Lib.hid (HBR.out.alloc (by omega) (.cells #[.int .u64 (sn (names a) q).1, .int .u64 (sn (names a) q).2] 53))
          refine (named_ok b _ (HK.out.below BY.out) HB.out HMB.out).mono ?_
          intro ε w4 hp
          obtain ⟨ao4, cap4, rfl, hs4, hb4⟩ := hp
          have HS4 := Lib.hid hs4
          have HB4 := Lib.hid (show Below (wr.heap.size + 1) _ w4 from hb4.mono (by simp))
          have B4 := Lib.hid (BZ.out.trans (hb4.mono (by simp; omega)))
          have hz4 : wr.heap.size + 1 ≤ w4.heap.size := by have := hb4.size; simp at this; omega
          clear hb4 hs4 x1 x2 hca
          obtain ⟨nb, hnb⟩ : ∃ nb, nb = (names b).length := ⟨_, rfl⟩
          have HNB := Lib.hid hnb
          rw [← hnb] at ⊢
          have hlb' : nb ≤ 2 := by omega
          clear hnb
          go_wp2_with fail
          obtain ⟨wo, rfl⟩ : ∃ wo : World, wo = wr := ⟨_, rfl⟩
          go_loopw [27] (fun i wr => ∃ p : Nat, p ≤ nb ∧ i = .int .i64 p ∧ (∀ j, j < p → tch (sn (names a) q) (sn (names b) j) = false) ∧ Below w4.heap.size w4 wr) (fun i _ => 2 - (intOf i).toNat)
          case atStart => exact ⟨0, by omega, rfl, fun j hj => by omega, Below.refl _ _⟩
          case round =>
            obtain ⟨p, hp, rfl, hno, hbr⟩ := hrel
            have HNO2 := Lib.hid hno; have HBR2 := Lib.hid hbr
            have hzr2 : w4.heap.size ≤ wr.heap.size := hbr.size
            clear hno hbr
            have B5 := Lib.hid (B4.out.trans (HBR2.out.mono (by omega)))
            have B6 := Lib.hid (B3.out.trans (B5.out.mono (by omega)))
            by_cases hpn : p < nb
            · obtain ⟨g4, rfl, y1, y2⟩ := (HS4.out.below HBR2.out) p (by have := HNB.out; omega)
              have hcx := oldc (HB4.out.trans (HBR2.out.mono (by omega)))
              have hxlt : wo.heap.size < wr.heap.size := by omega
              cases ht1 : decide ((sn (names a) q).1 ≤ (sn (names b) p).2)
              · have HT1 := Lib.hid (show tch (sn (names a) q) (sn (names b) p) = false by simp [tch, ht1])
                go_wp2_with fail
                go_roundw
                case rel => exact ⟨p + 1, by omega, by go_num, fun j hj => by
                  by_cases hjp : j = p
                  · subst hjp; exact HT1.out
                  · exact HNO2.out j (by omega), HBR2.out.alloc (by omega) _⟩
                case measure => simp [intOf]; omega
              · cases ht2 : decide ((sn (names b) p).1 ≤ (sn (names a) q).2)
                · have HT1 := Lib.hid (show tch (sn (names a) q) (sn (names b) p) = false by simp [tch, ht2])
                  go_wp2_with fail
                  go_roundw
                  case rel => exact ⟨p + 1, by omega, by go_num, fun j hj => by
                    by_cases hjp : j = p
                    · subst hjp; exact HT1.out
                    · exact HNO2.out j (by omega), HBR2.out.alloc (by omega) _⟩
                  case measure => simp [intOf]; omega
                · have HT1 := Lib.hid (show tch (sn (names a) q) (sn (names b) p) = true by simp [tch, ht1, ht2])
                  have HT := Lib.hid (show touchB a b = true from HT0.out.trans (any_sn (i := q) (by have := HNA.out; omega) (any_sn (i := p) (by have := HNB.out; omega) HT1.out)))
                  go_wp2_with fail
                  go_ret
                  exact ⟨by rw [HT.out]; rfl, B6.out.alloc (by omega) _⟩
            · obtain rfl : p = nb := by omega
              go_wp2_with fail
              go_roundw
              case rel => exact ⟨q + 1, by omega, by go_num, fun j hj => by
                by_cases hjp : j = q
                · subst hjp; exact none_sn (fun i hi => HNO2.out i (by have := HNB.out; omega))
                · exact HNO.out j (by omega), B5.out⟩
              case measure => simp [intOf]; omega
        · obtain rfl : q = na := by omega
          have HT := Lib.hid (show touchB a b = false from HT0.out.trans (none_sn (fun i hi => HNO.out i (by have := HNA.out; omega))))
          go_wp2_with fail
          go_ret
          exact ⟨by rw [HT.out]; rfl, B3.out.trans (HBR.out.mono (by omega))⟩
end Go.Proofs.YtdmcmpbappjdoaaDoor
