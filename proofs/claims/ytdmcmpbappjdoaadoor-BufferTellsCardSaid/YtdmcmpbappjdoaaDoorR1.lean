/- Layer 9: the document's may, Check. -/
import Derived.Test.YtdmcmpbappjdoaaDoorE1
namespace Go.Proofs.YtdmcmpbappjdoaaDoor
open Go.ChangeShapes Go.WideShapes Go.ChangeAt Go.RowKit
set_option linter.unusedVariables false
set_option linter.unusedSimpArgs false

theorem fmB_false (x : Int) : fmB x false = (x == 0) := by simp [fmB]
theorem fmB_true (x : Int) : fmB x true = (decide (0 ≤ x) && decide (x ≤ 1048576)) := by
  rw [Bool.eq_iff_iff]
  simp [fmB]
  omega
theorem may_0 (wd v fr fm : Int) : mayB ⟨0, wd, v, fr, fm⟩ = (decide (wd < 1099511627776) && (fr == 0) && (fm == 0)) := by
  have e : mayB ⟨0, wd, v, fr, fm⟩ = (restB 0 wd v && fmB fm false && fmB fr false) := rfl
  rw [e, fmB_false, fmB_false]
  simp only [restB, show kW 0 = true from rfl, if_true]
  cases decide (wd < 1099511627776) <;> cases (fr == 0) <;> cases (fm == 0) <;> rfl
theorem may_1 (wd v fr fm : Int) : mayB ⟨1, wd, v, fr, fm⟩ = ((wd == 0) && (v == 0) && (fm == 0) && (fr == 0)) := by
  have e : mayB ⟨1, wd, v, fr, fm⟩ = (restB 1 wd v && fmB fm false && fmB fr false) := rfl
  rw [e, fmB_false, fmB_false]
  simp only [restB, show kW 1 = false from rfl, Bool.false_eq_true, if_false]
theorem may_2 (wd v fr fm : Int) : mayB ⟨2, wd, v, fr, fm⟩ = ((wd == 0) && (v == 0) && (fr == 0) && decide (0 ≤ fm) && decide (fm ≤ 1048576)) := by
  have e : mayB ⟨2, wd, v, fr, fm⟩ = (restB 2 wd v && fmB fm true && fmB fr false) := rfl
  rw [e, fmB_false, fmB_true]
  simp only [restB, show kW 2 = false from rfl, Bool.false_eq_true, if_false]
  cases (wd == 0) <;> cases (v == 0) <;> cases (fr == 0) <;> cases decide (0 ≤ fm) <;> cases decide (fm ≤ 1048576) <;> rfl
theorem may_3 (wd v fr fm : Int) : mayB ⟨3, wd, v, fr, fm⟩ = ((wd == 0) && (v == 0) && decide (0 ≤ fr) && decide (fr ≤ 1048576) && decide (0 ≤ fm) && decide (fm ≤ 1048576)) := by
  have e : mayB ⟨3, wd, v, fr, fm⟩ = (restB 3 wd v && fmB fm true && fmB fr true) := rfl
  rw [e, fmB_true, fmB_true]
  simp only [restB, show kW 3 = false from rfl, Bool.false_eq_true, if_false]
  cases (wd == 0) <;> cases (v == 0) <;> cases decide (0 ≤ fr) <;> cases decide (fr ≤ 1048576) <;> cases decide (0 ≤ fm) <;> cases decide (fm ≤ 1048576) <;> rfl

set_option maxHeartbeats 2000000 in
theorem rmay_ok (e : Ent) (w : World) (ho : e.ok) : Calls Tryd.prog 26 #[e.agg] w fun ε w' => ε = .returned (.bool (mayB e)) ∧ Below w.heap.size w w' := by
  obtain ⟨k, wd, v, fr, fm⟩ := e
  obtain ⟨k0, k1, w0, w1, v0, v1, r0, r1, m0, m1⟩ := ho
  simp only at k0 k1 w0 w1 v0 v1 r0 r1 m0 m1
  unfold Ent.agg
  simp only
  by_cases h0 : k = 0
  · subst h0
    clear w0 w1 v0 v1 r0 r1 m0 m1 k0 k1
    cases t1 : decide (wd < 1099511627776)
    · have HM := Lib.hid (show mayB ⟨0, wd, v, fr, fm⟩ = false by rw [may_0, t1]; simp)
      go_enter Tryd.func26, Tryd.ntmps26
      go_wp2_with fail
      go_ret
      exact ⟨by rw [HM.out]; rfl, (Below.refl _ _).alloc (Nat.le_refl _) _⟩
    · cases t2 : (fr == 0)
      · have HM := Lib.hid (show mayB ⟨0, wd, v, fr, fm⟩ = false by rw [may_0, t2]; simp)
        go_enter Tryd.func26, Tryd.ntmps26
        go_wp2_with fail
        go_ret
        exact ⟨by rw [HM.out]; rfl, (Below.refl _ _).alloc (Nat.le_refl _) _⟩
      · cases t3 : (fm == 0)
        · have HM := Lib.hid (show mayB ⟨0, wd, v, fr, fm⟩ = false by rw [may_0, t3]; simp)
          go_enter Tryd.func26, Tryd.ntmps26
          go_wp2_with fail
          go_ret
          exact ⟨by rw [HM.out]; rfl, (Below.refl _ _).alloc (Nat.le_refl _) _⟩
        · have HM := Lib.hid (show mayB ⟨0, wd, v, fr, fm⟩ = true by rw [may_0]; simp [t1, t2, t3])
          go_enter Tryd.func26, Tryd.ntmps26
          go_wp2_with fail
          go_ret
          exact ⟨by rw [HM.out]; rfl, (Below.refl _ _).alloc (Nat.le_refl _) _⟩
  · by_cases h1 : k = 1
    · subst h1
      clear w0 w1 v0 v1 r0 r1 m0 m1 k0 k1
      by_cases a1 : wd = 0
      · subst a1
        by_cases a2 : v = 0
        · subst a2
          by_cases a3 : fr = 0
          · subst a3
            by_cases a4 : fm = 0
            · subst a4
              have HM := Lib.hid (show mayB ⟨1, 0, 0, 0, 0⟩ = true by decide)
              go_enter Tryd.func26, Tryd.ntmps26
              go_wp2_with fail
              go_ret
              exact ⟨by rw [HM.out]; rfl, (Below.refl _ _).alloc (Nat.le_refl _) _⟩
            · have HM := Lib.hid (show mayB ⟨1, 0, 0, 0, fm⟩ = false by rw [may_1]; simp [a4])
              go_enter Tryd.func26, Tryd.ntmps26
              go_wp2_with fail
              go_ret
              exact ⟨by rw [HM.out]; rfl, (Below.refl _ _).alloc (Nat.le_refl _) _⟩
          · have HM := Lib.hid (show mayB ⟨1, 0, 0, fr, fm⟩ = false by rw [may_1]; simp [a3])
            go_enter Tryd.func26, Tryd.ntmps26
            go_wp2_with fail
            go_ret
            exact ⟨by rw [HM.out]; rfl, (Below.refl _ _).alloc (Nat.le_refl _) _⟩
        · have HM := Lib.hid (show mayB ⟨1, 0, v, fr, fm⟩ = false by rw [may_1]; simp [a2])
          go_enter Tryd.func26, Tryd.ntmps26
          go_wp2_with fail
          go_ret
          exact ⟨by rw [HM.out]; rfl, (Below.refl _ _).alloc (Nat.le_refl _) _⟩
      · have HM := Lib.hid (show mayB ⟨1, wd, v, fr, fm⟩ = false by rw [may_1]; simp [a1])
        go_enter Tryd.func26, Tryd.ntmps26
        go_wp2_with fail
        go_ret
        exact ⟨by rw [HM.out]; rfl, (Below.refl _ _).alloc (Nat.le_refl _) _⟩
    · by_cases h2 : k = 2
      · subst h2
        clear w0 w1 v0 v1 r0 r1 m0 m1 k0 k1
        cases t1 : (wd == 0)
        · have HM := Lib.hid (show mayB ⟨2, wd, v, fr, fm⟩ = false by rw [may_2, t1]; simp)
          go_enter Tryd.func26, Tryd.ntmps26
          go_wp2_with fail
          go_ret
          exact ⟨by rw [HM.out]; rfl, (Below.refl _ _).alloc (Nat.le_refl _) _⟩
        · cases t2 : (v == 0)
          · have HM := Lib.hid (show mayB ⟨2, wd, v, fr, fm⟩ = false by rw [may_2, t2]; simp)
            go_enter Tryd.func26, Tryd.ntmps26
            go_wp2_with fail
            go_ret
            exact ⟨by rw [HM.out]; rfl, (Below.refl _ _).alloc (Nat.le_refl _) _⟩
          · cases t3 : (fr == 0)
            · have HM := Lib.hid (show mayB ⟨2, wd, v, fr, fm⟩ = false by rw [may_2, t3]; simp)
              go_enter Tryd.func26, Tryd.ntmps26
              go_wp2_with fail
              go_ret
              exact ⟨by rw [HM.out]; rfl, (Below.refl _ _).alloc (Nat.le_refl _) _⟩
            · cases t4 : decide (0 ≤ fm)
              · have HM := Lib.hid (show mayB ⟨2, wd, v, fr, fm⟩ = false by rw [may_2, t4]; simp)
                go_enter Tryd.func26, Tryd.ntmps26
                go_wp2_with fail
                go_ret
                exact ⟨by rw [HM.out]; rfl, (Below.refl _ _).alloc (Nat.le_refl _) _⟩
              · cases t5 : decide (fm ≤ 1048576)
                · have HM := Lib.hid (show mayB ⟨2, wd, v, fr, fm⟩ = false by rw [may_2, t5]; simp)
                  go_enter Tryd.func26, Tryd.ntmps26
                  go_wp2_with fail
                  go_ret
                  exact ⟨by rw [HM.out]; rfl, (Below.refl _ _).alloc (Nat.le_refl _) _⟩
                · have HM := Lib.hid (show mayB ⟨2, wd, v, fr, fm⟩ = true by rw [may_2]; simp [t1, t2, t3, t4, t5])
                  go_enter Tryd.func26, Tryd.ntmps26
                  go_wp2_with fail
                  go_ret
                  exact ⟨by rw [HM.out]; rfl, (Below.refl _ _).alloc (Nat.le_refl _) _⟩
      · by_cases h3 : k = 3
        · subst h3
          clear w0 w1 v0 v1 r0 r1 m0 m1 k0 k1
          cases t1 : (wd == 0)
          · have HM := Lib.hid (show mayB ⟨3, wd, v, fr, fm⟩ = false by rw [may_3, t1]; simp)
            go_enter Tryd.func26, Tryd.ntmps26
            go_wp2_with fail
            go_ret
            exact ⟨by rw [HM.out]; rfl, (Below.refl _ _).alloc (Nat.le_refl _) _⟩
          · cases t2 : (v == 0)
            · have HM := Lib.hid (show mayB ⟨3, wd, v, fr, fm⟩ = false by rw [may_3, t2]; simp)
              go_enter Tryd.func26, Tryd.ntmps26
              go_wp2_with fail
              go_ret
              exact ⟨by rw [HM.out]; rfl, (Below.refl _ _).alloc (Nat.le_refl _) _⟩
            · cases t3 : decide (0 ≤ fr)
              · have HM := Lib.hid (show mayB ⟨3, wd, v, fr, fm⟩ = false by rw [may_3, t3]; simp)
                go_enter Tryd.func26, Tryd.ntmps26
                go_wp2_with fail
                go_ret
                exact ⟨by rw [HM.out]; rfl, (Below.refl _ _).alloc (Nat.le_refl _) _⟩
              · cases t4 : decide (fr ≤ 1048576)
                · have HM := Lib.hid (show mayB ⟨3, wd, v, fr, fm⟩ = false by rw [may_3, t4]; simp)
                  go_enter Tryd.func26, Tryd.ntmps26
                  go_wp2_with fail
                  go_ret
                  exact ⟨by rw [HM.out]; rfl, (Below.refl _ _).alloc (Nat.le_refl _) _⟩
                · cases t5 : decide (0 ≤ fm)
                  · have HM := Lib.hid (show mayB ⟨3, wd, v, fr, fm⟩ = false by rw [may_3, t5]; simp)
                    go_enter Tryd.func26, Tryd.ntmps26
                    go_wp2_with fail
                    go_ret
                    exact ⟨by rw [HM.out]; rfl, (Below.refl _ _).alloc (Nat.le_refl _) _⟩
                  · cases t6 : decide (fm ≤ 1048576)
                    · have HM := Lib.hid (show mayB ⟨3, wd, v, fr, fm⟩ = false by rw [may_3, t6]; simp)
                      go_enter Tryd.func26, Tryd.ntmps26
                      go_wp2_with fail
                      go_ret
                      exact ⟨by rw [HM.out]; rfl, (Below.refl _ _).alloc (Nat.le_refl _) _⟩
                    · have HM := Lib.hid (show mayB ⟨3, wd, v, fr, fm⟩ = true by rw [may_3]; simp [t1, t2, t3, t4, t5, t6])
                      go_enter Tryd.func26, Tryd.ntmps26
                      go_wp2_with fail
                      go_ret
                      exact ⟨by rw [HM.out]; rfl, (Below.refl _ _).alloc (Nat.le_refl _) _⟩
        · have HM := Lib.hid (show mayB ⟨k, wd, v, fr, fm⟩ = false by
            cases hm : mayB ⟨k, wd, v, fr, fm⟩
            · rfl
            · obtain ⟨K, hK, hK4⟩ := may_K hm
              simp only at hK
              omega)
          have d0 : (k == 0) = false := by simpa using h0
          have d1 : (k == 1) = false := by simpa using h1
          have d2 : (k == 2) = false := by simpa using h2
          have d3 : (k == 3) = false := by simpa using h3
          go_enter Tryd.func26, Tryd.ntmps26
          go_wp2_with fail
          go_ret
          exact ⟨by rw [HM.out]; rfl, (Below.refl _ _).alloc (Nat.le_refl _) _⟩

set_option maxHeartbeats 400000 in
theorem rcheck_ok (ao : Option Addr) (cap : Nat) (l : List Ent) (n : Nat) (w : World) (hn : n = l.length) (hcap : n ≤ 9223372036854775807) (he : Ents w ao l) (ho : Oks l) :
    Calls Tryd.prog 18 #[.slice ao n cap] w fun ε w' => ε = .returned (.int .i64 (cc (checkB l))) ∧ Below w.heap.size w w' := by
  have HN := Lib.hid hn; have HE := Lib.hid he; have HO := Lib.hid ho
  clear he ho
  by_cases h8 : 8 < n
  · have HC := Lib.hid (show checkB l = false by simp [checkB]; omega)
    clear hn
    go_enter Tryd.func18, Tryd.ntmps18
    go_wp2_with fail
    go_ret
    exact ⟨by rw [HC.out]; rfl, Below.refl _ _⟩
  · clear hn
    go_enter Tryd.func18, Tryd.ntmps18
    go_wp2_with fail
    go_loopw [3] (fun i wr => ∃ k : Nat, k ≤ n ∧ i = .int .i64 k ∧ (∀ j, j < k → mayB (nt l j) = true) ∧ Below w.heap.size w wr) (fun i _ => 8 - (intOf i).toNat)
    case atStart => exact ⟨0, by omega, rfl, fun j hj => by omega, Below.refl _ _⟩
    case round =>
      obtain ⟨k, hkn, rfl, hall, hbe⟩ := hrel
      have HALL := Lib.hid hall; have HBE := Lib.hid hbe
      clear hall hbe
      by_cases hk : k < n
      · obtain ⟨b, off, rfl, x⟩ := (HE.out.below HBE.out) k (by have := HN.out; omega)
        obtain ⟨x0, x1, x2, x3, x4⟩ := x
        have HOK := Lib.hid (HO.out.at (i := k) (by have := HN.out; omega))
        go_wp2_with fail
        refine (rmay_ok (nt l k) _ HOK.out).mono ?_
        rintro ε w1 ⟨rfl, hb1⟩
        have B1 := Lib.hid (HBE.out.trans (hb1.mono HBE.out.size))
        clear hb1 x0 x1 x2 x3 x4
        cases hm : mayB (nt l k)
        · have HC := Lib.hid (show checkB l = false by simp only [checkB, all_no (p := mayB) (i := k) (by have := HN.out; omega) hm, Bool.and_false])
          go_wp2_with fail
          go_ret
          exact ⟨by rw [HC.out]; rfl, B1.out⟩
        · have HM := Lib.hid hm
          go_wp2_with fail
          go_roundw
          case rel => exact ⟨k + 1, by omega, by go_num, fun j hj => by
            by_cases hjk : j = k
            · subst hjk; exact HM.out
            · exact HALL.out j (by omega), B1.out⟩
          case measure => simp [intOf]; omega
      · obtain rfl : k = n := by omega
        have HA := Lib.hid (show checkB l = !headBar l by
          have h1 := (all_nt l mayB).2 (fun i hi => HALL.out i (by have := HN.out; omega))
          have h3 : l.length ≤ 8 := by have := HN.out; omega
          simp [checkB, h1, h3])
        by_cases h0 : 0 < k
        · obtain ⟨b, off, rfl, x⟩ := (HE.out.below HBE.out) 0 (by have := HN.out; omega)
          have x0 := x.c0
          simp only [Nat.zero_mul, Nat.add_zero] at x0
          clear x
          cases hb : ((nt l 0).k == 1)
          · have HC := Lib.hid (show checkB l = true by rw [HA.out, headBar_nt (by have := HN.out; omega)]; simp [isBar, hb])
            go_wp2_with fail
            go_ret
            exact ⟨by rw [HC.out]; rfl, HBE.out⟩
          · have HC := Lib.hid (show checkB l = false by rw [HA.out, headBar_nt (by have := HN.out; omega)]; simp [isBar, hb])
            go_wp2_with fail
            go_ret
            exact ⟨by rw [HC.out]; rfl, HBE.out⟩
        · obtain rfl : k = 0 := by omega
          have HC := Lib.hid (show checkB l = true by rw [HA.out, List.length_eq_zero_iff.1 HN.out.symm]; rfl)
          go_wp2_with fail
          go_ret
          exact ⟨by rw [HC.out]; rfl, HBE.out⟩
end Go.Proofs.YtdmcmpbappjdoaaDoor
