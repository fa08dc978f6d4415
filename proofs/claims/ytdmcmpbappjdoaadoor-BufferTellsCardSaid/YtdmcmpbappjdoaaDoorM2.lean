/- Layer 9: writes, Forward. -/
import Derived.Test.YtdmcmpbappjdoaaDoorD9
namespace Go.Proofs.YtdmcmpbappjdoaaDoor
open Go.ChangeShapes Go.WideShapes Go.ChangeAt Go.RowKit
set_option linter.unusedVariables false

/-- Does an entry that may be write the word? -/
def wrB (e : Ent) (word : Int) : Bool := if e.k = 0 then e.wd == word else if e.k = 2 ∨ e.k = 3 then e.fm == word / 512 else false

theorem writes_ok (e : Ent) (word : Int) (w : World) (hk : TK w) (ho : e.ok) (hm : mayB e = true) (h0 : 0 ≤ word) (h1 : word ≤ 18446744073709551615) :
    Calls Tryd.prog 25 #[e.agg, .int .u64 word] w fun ε w' => ε = .returned (.bool (wrB e word)) ∧ Below w.heap.size w w' := by
  obtain ⟨K, hK, hK4⟩ := may_K hm
  obtain ⟨m0, m1, r0, r1⟩ := may_fm hm
  obtain ⟨t0, t1, t2⟩ := hk K hK4
  have hlt := hk.lt
  obtain ⟨k, wd, v, fr, fm⟩ := e
  simp only at hK m0 m1 r0 r1
  subst hK
  have hu : IntKind.u64.wrap fm = fm := by rw [IntKind.wrap_u64]; omega
  clear hm ho hk
  unfold Ent.agg
  rcases (show K = 0 ∨ K = 1 ∨ K = 2 ∨ K = 3 by omega) with rfl | rfl | rfl | rfl
  · have t0' : w.cell? ⟨0, 0, none⟩ = some (.bool true) := t0
    have t1' : w.cell? ⟨0, 1, none⟩ = some (.bool false) := t1
    have t2' : w.cell? ⟨0, 2, none⟩ = some (.bool false) := t2
    clear t0 t1 t2
    cases hw : (wd == word)
    · have HW := Lib.hid (show wrB ⟨0, wd, v, fr, fm⟩ word = false by simp [wrB, hw])
      go_enter Tryd.func25, Tryd.ntmps25
      go_wp2_with fail
      go_ret
      exact ⟨congrArg (fun b => Ending.returned (.bool b)) HW.out.symm, ((Below.refl _ _).alloc (Nat.le_refl _) _).alloc (by simp) _⟩
    · have HW := Lib.hid (show wrB ⟨0, wd, v, fr, fm⟩ word = true by simp [wrB, hw])
      go_enter Tryd.func25, Tryd.ntmps25
      go_wp2_with fail
      go_ret
      exact ⟨congrArg (fun b => Ending.returned (.bool b)) HW.out.symm, ((Below.refl _ _).alloc (Nat.le_refl _) _).alloc (by simp) _⟩
  · have t0' : w.cell? ⟨0, 3, none⟩ = some (.bool false) := t0
    have t1' : w.cell? ⟨0, 4, none⟩ = some (.bool false) := t1
    have t2' : w.cell? ⟨0, 5, none⟩ = some (.bool false) := t2
    clear t0 t1 t2
    go_enter Tryd.func25, Tryd.ntmps25
    go_wp2_with fail
    go_ret
    exact ⟨rfl, ((Below.refl _ _).alloc (Nat.le_refl _) _).alloc (by simp) _⟩
  · have t0' : w.cell? ⟨0, 6, none⟩ = some (.bool false) := t0
    have t1' : w.cell? ⟨0, 7, none⟩ = some (.bool true) := t1
    have t2' : w.cell? ⟨0, 8, none⟩ = some (.bool false) := t2
    clear t0 t1 t2
    have HW := Lib.hid (show wrB ⟨2, wd, v, fr, fm⟩ word = (fm == word / 512) by simp [wrB])
    go_enter Tryd.func25, Tryd.ntmps25
    go_wp2_with fail
    go_ret
    exact ⟨congrArg (fun b => Ending.returned (.bool b)) HW.out.symm, ((Below.refl _ _).alloc (Nat.le_refl _) _).alloc (by simp) _⟩
  · have t0' : w.cell? ⟨0, 9, none⟩ = some (.bool false) := t0
    have t1' : w.cell? ⟨0, 10, none⟩ = some (.bool true) := t1
    have t2' : w.cell? ⟨0, 11, none⟩ = some (.bool true) := t2
    clear t0 t1 t2
    have HW := Lib.hid (show wrB ⟨3, wd, v, fr, fm⟩ word = (fm == word / 512) by simp [wrB])
    go_enter Tryd.func25, Tryd.ntmps25
    go_wp2_with fail
    go_ret
    exact ⟨congrArg (fun b => Ending.returned (.bool b)) HW.out.symm, ((Below.refl _ _).alloc (Nat.le_refl _) _).alloc (by simp) _⟩

/-- The last place below k at which p says yes. -/
def lastW (p : Nat → Bool) : Nat → Option Nat
  | 0 => none
  | k + 1 => if p k = true then some k else lastW p k
def fwdO (l : List Ent) : Option Nat → Int × Bool × Int
  | none => (0, false, 0)
  | some k => if (nt l k).k = 3 then (0, false, 21) else ((nt l k).v, true, 0)
def fwdR (l : List Ent) (word : Int) : Int × Bool × Int := if checkB l = false ∨ 1099511627776 ≤ word then (0, false, 2) else fwdO l (lastW (fun j => wrB (nt l j) word) l.length)

set_option maxHeartbeats 1000000 in
theorem forward_ok (ao : Option Addr) (cap : Nat) (l : List Ent) (n : Nat) (word : Int) (w : World) (hn : n = l.length) (hcap : n ≤ cap) (hcap2 : cap ≤ 9223372036854775807) (h0 : 0 ≤ word) (h1 : word ≤ 18446744073709551615) (hk : TK w) (he : Ents w ao l) (ho : Oks l) :
    Calls Tryd.prog 12 #[.slice ao n cap, .int .u64 word] w fun ε w' => ε = .returned (.tuple #[.int .u64 (fwdR l word).1, .bool (fwdR l word).2.1, .int .i64 (fwdR l word).2.2]) ∧ Below w.heap.size w w' := by
  have HN := Lib.hid hn; have HK := Lib.hid hk; have HE := Lib.hid he; have HO := Lib.hid ho
  clear hk he ho hn
  go_enter Tryd.func12, Tryd.ntmps12
  go_wp2_with fail
  refine (check_ok ao cap l n _ HN.out (by omega) HK.out HE.out HO.out).mono ?_
  rintro ε w1 ⟨rfl, hb1⟩
  have B1 := Lib.hid hb1
  clear hb1
  cases hch : checkB l
  · have HR := Lib.hid (show fwdR l word = (0, false, 2) by simp [fwdR, hch])
    have hcc : (cc false != 0) = true := rfl
    clear hch
    go_wp2_with fail
    go_ret3
    exact ⟨by rw [HR.out]; rfl, B1.out⟩
  · have hcc : (cc true != 0) = false := rfl
    have HCH := Lib.hid hch
    clear hch
    by_cases hw : 1099511627776 ≤ word
    · have hd : decide (1099511627776 ≤ word) = true := by simpa using hw
      have HR := Lib.hid (show fwdR l word = (0, false, 2) by simp [fwdR, hw])
      clear hw
      go_wp2_with fail
      go_ret3
      exact ⟨by rw [HR.out]; rfl, B1.out⟩
    · have hd : decide (1099511627776 ≤ word) = false := by simpa using hw
      have HR := Lib.hid (show fwdR l word = fwdO l (lastW (fun j => wrB (nt l j) word) n) by rw [HN.out]; unfold fwdR; rw [if_neg (by simp [HCH.out]; omega)])
      have hn8 : n ≤ 8 := by have h := HCH.out; simp [checkB] at h; have := HN.out; omega
      clear hw
      go_wp2_with fail
      go_loopw [7] (fun i wr => ∃ (k : Nat) (z : Int), k ≤ n ∧ z = (k : Int) - 1 ∧ i = .int .i64 z ∧ lastW (fun j => wrB (nt l j) word) n = lastW (fun j => wrB (nt l j) word) k ∧ Below w.heap.size w wr) (fun i _ => (intOf i + 1).toNat)
      case atStart => exact ⟨n, _, by omega, rfl, rfl, rfl, B1.out⟩
      case round =>
        obtain ⟨k, z, hkn, hz, rfl, hlw, hbe⟩ := hrel
        have HLW := Lib.hid hlw; have HBE := Lib.hid hbe
        clear hlw hbe
        cases k with
        | zero =>
          obtain rfl : z = -1 := by omega
          have HR2 := Lib.hid (HR.out.trans (show fwdO l (lastW (fun j => wrB (nt l j) word) n) = (0, false, 0) by rw [HLW.out]; rfl))
          clear hz
          go_wp2_with fail
          go_ret3
          exact ⟨by rw [HR2.out]; rfl, HBE.out⟩
        | succ k =>
          obtain rfl : z = (k : Int) := by omega
          clear hz
          have hkn' : k < n := by omega
          obtain ⟨b, off, rfl, x⟩ := (HE.out.below HBE.out) k (by have := HN.out; omega)
          obtain ⟨x0, x1, x2, x3, x4⟩ := x
          have HMK := Lib.hid (show mayB (nt l k) = true by
            have h := HCH.out
            simp only [checkB, Bool.and_eq_true] at h
            exact (all_nt l mayB).1 h.2 k (by have := HN.out; omega))
          go_wp2_with fail
          refine (writes_ok (nt l k) word _ (HK.out.below HBE.out) (HO.out.at (by have := HN.out; omega)) HMK.out h0 h1).mono ?_
          rintro ε w2 ⟨rfl, hb2⟩
          have B2 := Lib.hid (HBE.out.trans (hb2.mono HBE.out.size))
          have hc2 := oldc hb2
          have hbl : b < wr.heap.size := lt_of_cell x0
          clear hb2
          cases hwr : wrB (nt l k) word
          · have HL2 := Lib.hid (show lastW (fun j => wrB (nt l j) word) (k + 1) = lastW (fun j => wrB (nt l j) word) k by simp [lastW, hwr])
            clear hc2
            go_wp2_with fail
            go_roundw
            case rel => exact ⟨k, _, by omega, rfl, rfl, HLW.out.trans HL2.out, B2.out⟩
            case measure => simp [intOf]
          · have HR2 := Lib.hid (HR.out.trans (show fwdO l (lastW (fun j => wrB (nt l j) word) n) = if (nt l k).k = 3 then (0, false, 21) else ((nt l k).v, true, 0) by
              rw [HLW.out]
              simp [lastW, hwr, fwdO]))
            cases h3 : ((nt l k).k == 3)
            · have HR3 := Lib.hid (HR2.out.trans (if_neg (by simpa using h3)))
              go_wp2_with fail
              go_ret3
              exact ⟨by rw [HR3.out]; rfl, B2.out⟩
            · have HR3 := Lib.hid (HR2.out.trans (if_pos (by simpa using h3)))
              go_wp2_with fail
              go_ret3
              exact ⟨by rw [HR3.out]; rfl, B2.out⟩
end Go.Proofs.YtdmcmpbappjdoaaDoor
