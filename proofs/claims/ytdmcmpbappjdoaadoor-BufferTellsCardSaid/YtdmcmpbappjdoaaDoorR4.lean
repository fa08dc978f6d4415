/- Layer 9: the document's May, Forward. -/
import Derived.Test.YtdmcmpbappjdoaaDoorR2
import Derived.Test.YtdmcmpbappjdoaaDoorM2
import Derived.Deep.RegionHeld3
namespace Go.Proofs.YtdmcmpbappjdoaaDoor
open Go.ChangeShapes Go.WideShapes Go.ChangeAt Go.RowKit
set_option linter.unusedVariables false

theorem may_v {e : Ent} (hm : mayB e = true) (h2 : e.k = 2) : e.v = 0 := by
  simp only [mayB, Bool.and_eq_true, h2] at hm
  have hr := hm.1.1.2
  have hkw : kW (2 : Int).toNat = false := rfl
  simp only [restB, hkw, Bool.false_eq_true, if_false, Bool.and_eq_true, beq_iff_eq] at hr
  exact hr.2

set_option maxHeartbeats 2000000 in
theorem rforward_ok (ao : Option Addr) (cap : Nat) (l : List Ent) (n : Nat) (word : Int) (w : World) (hn : n = l.length) (hcap : n ≤ 9223372036854775807) (h0 : 0 ≤ word) (h1 : word ≤ 18446744073709551615) (he : Ents w ao l) (ho : Oks l) :
    Calls Tryd.prog 16 #[.slice ao n cap, .int .u64 word] w fun ε w' => ε = .returned (.tuple #[.int .u64 (fwdR l word).1, .bool (fwdR l word).2.1, .int .i64 (fwdR l word).2.2]) ∧ Below w.heap.size w w' := by
  have HN := Lib.hid hn; have HE := Lib.hid he; have HO := Lib.hid ho
  clear he ho hn
  go_enter Tryd.func16, Tryd.ntmps16
  go_wp2_with fail
  refine (rcheck_ok ao cap l n _ HN.out hcap HE.out HO.out).mono ?_
  rintro ε w1 ⟨rfl, hb1⟩
  have B1 := Lib.hid hb1
  clear hb1
  cases hch : checkB l
  · have HR := Lib.hid (show fwdR l word = (0, false, 2) by simp [fwdR, hch])
    have hcc : (cc false != 0) = true := rfl
    clear hch
    go_wp2_with fail
    go_ret3
    exact ⟨by rw [HR.out]; rfl, B1.out⟩
  · have hcc : (cc true != 0) = false := rfl
    have HCH := Lib.hid hch
    clear hch
    by_cases hw : 1099511627776 ≤ word
    · have hd : decide (1099511627776 ≤ word) = true := by simpa using hw
      have HR := Lib.hid (show fwdR l word = (0, false, 2) by simp [fwdR, hw])
      clear hw
      go_wp2_with fail
      go_ret3
      exact ⟨by rw [HR.out]; rfl, B1.out⟩
    · have hd : decide (1099511627776 ≤ word) = false := by simpa using hw
      have HR := Lib.hid (show fwdR l word = fwdO l (lastW (fun j => wrB (nt l j) word) n) by rw [HN.out]; unfold fwdR; rw [if_neg (by simp [HCH.out]; omega)])
      have hn8 : n ≤ 8 := by have h := HCH.out; simp [checkB] at h; have := HN.out; omega
      clear hw
      go_wp2_with fail
      go_loopw [7] (fun i wr => ∃ (k : Nat) (z : Int), k ≤ n ∧ z = (k : Int) - 1 ∧ i = .int .i64 z ∧ lastW (fun j => wrB (nt l j) word) n = lastW (fun j => wrB (nt l j) word) k ∧ Below w.heap.size w wr) (fun i _ => (intOf i + 1).toNat)
      case atStart => exact ⟨n, _, by omega, rfl, rfl, rfl, B1.out⟩
      case round =>
        obtain ⟨k, z, hkn, hz, rfl, hlw, hbe⟩ := hrel
        have HLW := Lib.hid hlw; have HBE := Lib.hid hbe
        clear hlw hbe
        cases k with
        | zero =>
          obtain rfl : z = -1 := by omega
          have HR2 := Lib.hid (HR.out.trans (show fwdO l (lastW (fun j => wrB (nt l j) word) n) = (0, false, 0) by rw [HLW.out]; rfl))
          clear hz
          go_wp2_with fail
          go_ret3
          exact ⟨by rw [HR2.out]; rfl, HBE.out⟩
        | succ k =>
          obtain rfl : z = (k : Int) := by omega
          clear hz
          have hkn' : k < n := by omega
          obtain ⟨b, off, rfl, x⟩ := (HE.out.below HBE.out) k (by have := HN.out; omega)
          obtain ⟨x0, x1, x2, x3, x4⟩ := x
          have HMK := Lib.hid (show mayB (nt l k) = true by
            have h := HCH.out
            simp only [checkB, Bool.and_eq_true] at h
            exact (all_nt l mayB).1 h.2 k (by have := HN.out; omega))
          obtain ⟨m0, m1, r0, r1⟩ := may_fm HMK.out
          have hu : IntKind.u64.wrap (nt l k).fm = (nt l k).fm := by rw [IntKind.wrap_u64]; omega
          have B2 := Lib.hid (HBE.out.alloc HBE.out.size (.cells (rowE (nt l k)) 31 (0, 0)))
          have HYES := Lib.hid (show wrB (nt l k) word = true → fwdR l word = if (nt l k).k = 3 then (0, false, 21) else ((nt l k).v, true, 0) from fun hwr => HR.out.trans (by
            rw [HLW.out]
            simp [lastW, hwr, fwdO]))
          have HNO := Lib.hid (show wrB (nt l k) word = false → lastW (fun j => wrB (nt l j) word) (k + 1) = lastW (fun j => wrB (nt l j) word) k from fun hwr => by simp [lastW, hwr])
          by_cases k0 : (nt l k).k = 0
          · have d0 : ((nt l k).k == 0) = true := by simp [k0]
            have d2 : ((nt l k).k == 2) = false := by simp [k0]
            have d3 : ((nt l k).k == 3) = false := by simp [k0]
            cases hx : ((nt l k).wd == word)
            · have HL2 := Lib.hid (HNO.out (by simp [wrB, k0, hx]))
              clear k0
              go_wp2_with fail
              go_roundw
              case rel => exact ⟨k, _, by omega, rfl, rfl, HLW.out.trans HL2.out, B2.out⟩
              case measure => simp [intOf]
            · have HR3 := Lib.hid ((HYES.out (by simp [wrB, k0, hx])).trans (if_neg (by omega)))
              clear k0
              go_wp2_with fail
              go_ret3
              exact ⟨by rw [HR3.out]; rfl, B2.out⟩
          · have d0 : ((nt l k).k == 0) = false := by simpa using k0
            by_cases k2 : (nt l k).k = 2
            · have d2 : ((nt l k).k == 2) = true := by simp [k2]
              have d3 : ((nt l k).k == 3) = false := by simp [k2]
              cases hx : ((nt l k).fm == word / 512)
              · have HL2 := Lib.hid (HNO.out (by simp [wrB, k2, hx]))
                clear k0 k2
                go_wp2_with fail
                go_roundw
                case rel => exact ⟨k, _, by omega, rfl, rfl, HLW.out.trans HL2.out, B2.out⟩
                case measure => simp [intOf]
              · have HR3 := Lib.hid (((HYES.out (by simp [wrB, k2, hx])).trans (if_neg (by omega))).trans (show ((nt l k).v, true, (0 : Int)) = (0, true, 0) by rw [may_v HMK.out k2]))
                clear k0 k2
                go_wp2_with fail
                go_ret3
                exact ⟨by rw [HR3.out]; rfl, B2.out⟩
            · have d2 : ((nt l k).k == 2) = false := by simpa using k2
              by_cases k3 : (nt l k).k = 3
              · have d3 : ((nt l k).k == 3) = true := by simp [k3]
                cases hx : ((nt l k).fm == word / 512)
                · have HL2 := Lib.hid (HNO.out (by simp [wrB, k3, hx]))
                  clear k0 k2 k3
                  go_wp2_with fail
                  go_roundw
                  case rel => exact ⟨k, _, by omega, rfl, rfl, HLW.out.trans HL2.out, B2.out⟩
                  case measure => simp [intOf]
                · have HR3 := Lib.hid ((HYES.out (by simp [wrB, k3, hx])).trans (if_pos k3))
                  clear k0 k2 k3
                  go_wp2_with fail
                  go_ret3
                  exact ⟨by rw [HR3.out]; rfl, B2.out⟩
              · have d3 : ((nt l k).k == 3) = false := by simpa using k3
                have HL2 := Lib.hid (HNO.out (by simp [wrB, k0, k2, k3]))
                clear k0 k2 k3
                go_wp2_with fail
                go_roundw
                case rel => exact ⟨k, _, by omega, rfl, rfl, HLW.out.trans HL2.out, B2.out⟩
                case measure => simp [intOf]

set_option maxHeartbeats 2000000 in
theorem rmayAt_ok (ao : Option Addr) (cap : Nat) (l : List Ent) (n : Nat) (k : Int) (w : World) (hn : n = l.length) (hcap : n ≤ 9223372036854775807) (he : Ents w ao l) (ho : Oks l) :
    Calls Tryd.prog 19 #[.slice ao n cap, .int .i64 k] w fun ε w' => ε = .returned (.bool (mayAt l k)) ∧ Below w.heap.size w w' := by
  have HN := Lib.hid hn; have HE := Lib.hid he; have HO := Lib.hid ho
  clear he ho hn
  go_enter Tryd.func19, Tryd.ntmps19
  go_wp2_with fail
  refine (rcheck_ok ao cap l n _ HN.out hcap HE.out HO.out).mono ?_
  rintro ε w1 ⟨rfl, hb1⟩
  have B1 := Lib.hid hb1
  clear hb1
  cases hc : checkB l
  · have HM := Lib.hid (show mayAt l k = false by simp [mayAt, hc])
    have hcc : (cc false != 0) = true := rfl
    go_wp2_with fail
    go_ret
    exact ⟨by rw [HM.out]; rfl, B1.out⟩
  · have hcc : (cc true != 0) = false := rfl
    have HC := Lib.hid hc
    have hn8 : n ≤ 8 := by simp [checkB] at hc; have := HN.out; omega
    clear hc
    by_cases h0 : k < 0
    · have HM := Lib.hid (show mayAt l k = false by simp [mayAt, show ¬ 0 ≤ k by omega])
      have h0' : decide (k < 0) = true := by simpa using h0
      go_wp2_with fail
      go_ret
      exact ⟨by rw [HM.out]; rfl, B1.out⟩
    · obtain ⟨K, rfl⟩ : ∃ K : Nat, k = K := ⟨k.toNat, by omega⟩
      have h0' : decide ((K : Int) < 0) = false := by simp
      by_cases h1 : K < n
      · have h1' : decide (n ≤ K) = false := by simpa using h1
        obtain ⟨b, off, rfl, x⟩ := (HE.out.below B1.out) K (by have := HN.out; omega)
        have HXK := Lib.hid x
        have hx0 := x.c0
        clear x
        have HMF := Lib.hid (show mayAt l K = freeB l K by
          have h2 : K < l.length := by have := HN.out; omega
          simp [mayAt, HC.out, h2])
        cases hb : ((nt l K).k == 1)
        · have HNB := Lib.hid (show isBar (nt l K) = false from hb)
          have HXO := Lib.hid (HO.out.at (i := K) (by have := HN.out; omega))
          go_wp2_with fail
          clear hx0
          go_loopw [5] (fun i wr => ∃ q : Nat, q ≤ K ∧ i = .int .i64 q ∧ (∀ j, j < q → stopB (nt l j) (nt l K) = false) ∧ Below w1.heap.size w1 wr) (fun i _ => K - (intOf i).toNat)
          case atStart => exact ⟨0, by omega, rfl, fun j hj => by omega, Below.refl _ _⟩
          case round =>
            obtain ⟨q, hq, rfl, hno, hbe⟩ := hrel
            have HNO := Lib.hid hno; have HBE := Lib.hid hbe
            have BE := Lib.hid (B1.out.trans (hbe.mono B1.out.size))
            clear hno hbe
            by_cases hqK : q < K
            · have hqn : q < n := by omega
              obtain ⟨b', off', e', y⟩ := (HE.out.below BE.out) q (by have := HN.out; omega)
              cases e'
              obtain ⟨y0, y1, y2, y3, y4⟩ := y
              obtain ⟨x0, x1, x2, x3, x4⟩ := HXK.out.below HBE.out
              have hbl : b < wr.heap.size := lt_of_cell x0
              have HYO := Lib.hid (HO.out.at (i := q) (by have := HN.out; omega))
              cases hbq : ((nt l q).k == 1)
              · have HST := Lib.hid (show stopB (nt l q) (nt l K) = touchB (nt l q) (nt l K) by simp [stopB, isBar, hbq])
                go_wp2_with fail
                go_region_held3 (fun wv => wv.cell? ⟨b, off + q * 5, none⟩ = some (.int .i8 (nt l q).k) ∧ wv.cell? ⟨b, off + q * 5 + 1, none⟩ = some (.int .u64 (nt l q).wd) ∧ wv.cell? ⟨b, off + q * 5 + 2, none⟩ = some (.int .u64 (nt l q).v) ∧ wv.cell? ⟨b, off + q * 5 + 3, none⟩ = some (.int .i64 (nt l q).fr) ∧ wv.cell? ⟨b, off + q * 5 + 4, none⟩ = some (.int .i64 (nt l q).fm) ∧ wv.cell? ⟨b, off + K * 5, none⟩ = some (.int .i8 (nt l K).k) ∧ wv.cell? ⟨b, off + K * 5 + 1, none⟩ = some (.int .u64 (nt l K).wd) ∧ wv.cell? ⟨b, off + K * 5 + 2, none⟩ = some (.int .u64 (nt l K).v) ∧ wv.cell? ⟨b, off + K * 5 + 3, none⟩ = some (.int .i64 (nt l K).fr) ∧ wv.cell? ⟨b, off + K * 5 + 4, none⟩ = some (.int .i64 (nt l K).fm)) (go_keep)
                  (first | (go_at_call 21; refine (rtouch_ok (nt l q) (nt l K) _ HYO.out HXO.out).mono ?_; rintro ε wm ⟨rfl, hbm⟩; have HMm := Lib.hid (below_of_drew (B := wr.heap.size) hbm (Nat.le_refl _)); clear hbm; have hold := oldc HMm.out))
                all_goals
                  have BM := Lib.hid (BE.out.trans (HMm.out.mono BE.out.size))
                  have HBM := Lib.hid (HBE.out.trans (HMm.out.mono HBE.out.size))
                  clear x0 x1 x2 x3 x4 y0 y1 y2 y3 y4 hold
                  cases ht : touchB (nt l q) (nt l K)
                  · have HS := Lib.hid (HST.out.trans ht)
                    go_wp2_with fail
                    go_roundw
                    case rel => exact ⟨q + 1, by omega, by go_num, fun j hj => by
                      by_cases hjq : j = q
                      · subst hjq; exact HS.out
                      · exact HNO.out j (by omega), HBM.out⟩
                    case measure => simp [intOf]; omega
                  · have HF := Lib.hid (HMF.out.trans (free_no hqK (HST.out.trans ht)))
                    go_wp2_with fail
                    go_ret
                    exact ⟨by rw [HF.out]; rfl, BM.out⟩
              · have HF := Lib.hid (HMF.out.trans (free_no hqK (show stopB (nt l q) (nt l K) = true by simp [stopB, isBar, hbq])))
                go_wp2_with fail
                go_quiet (fail)
                go_wp2_with fail
                go_ret
                exact ⟨by rw [HF.out]; rfl, below_drewN BE.out _⟩
            · obtain rfl : q = K := by omega
              have HF := Lib.hid (HMF.out.trans ((free_yes HNO.out).trans (by rw [HNB.out])))
              go_wp2_with fail
              go_ret
              exact ⟨by rw [HF.out]; rfl, BE.out⟩
        · have HF := Lib.hid (HMF.out.trans (show freeB l K = false by
            cases hf : freeB l K
            · rfl
            · simp only [freeB, Bool.and_eq_true, isBar, hb] at hf
              simp at hf))
          go_wp2_with fail
          go_ret
          exact ⟨by rw [HF.out]; rfl, B1.out⟩
      · have HM := Lib.hid (show mayAt l K = false by
          have h2 : ¬ K < l.length := by have := HN.out; omega
          simp [mayAt, h2])
        have h1' : decide (n ≤ K) = true := by simpa using h1
        go_wp2_with fail
        go_ret
        exact ⟨by rw [HM.out]; rfl, B1.out⟩
end Go.Proofs.YtdmcmpbappjdoaaDoor
