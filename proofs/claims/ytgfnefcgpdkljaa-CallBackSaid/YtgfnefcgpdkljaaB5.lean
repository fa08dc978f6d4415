/- Contracts of package call: Parse as one plain function; Result, Read; wakes. -/
import Derived.Test.YtgfnefcgpdkljaaB4
namespace Go.Proofs.Ytgfnefcgpdkljaa
open Go.ChangeShapes Go.WideShapes Go.ChangeAt Go.RowKit
set_option linter.unusedVariables false

def pOk (nu a0 a1 a2 : Int) : Bool :=
  if nu = 1 ∨ nu = 3 then lenB a0 a1 && rigB a2 else if nu = 2 then lenB a0 a1 else if nu = 4 ∨ nu = 5 ∨ nu = 6 then true else if nu = 7 then decide (a0 < 64) else false
def pK (nu a0 a1 a2 : Int) : Int := if pOk nu a0 a1 a2 = true then nu else 0
def pF (nu a0 a1 a2 : Int) : Int := if pOk nu a0 a1 a2 = true ∧ nu ≤ 3 then a0 / 4096 else 0
def pC (nu a0 a1 a2 : Int) : Int := if pOk nu a0 a1 a2 = true ∧ nu ≤ 3 then min (a1 / 4096) 1048576 else 0
def pW (nu a0 a1 a2 : Int) : Bool := if pOk nu a0 a1 a2 = true ∧ (nu = 1 ∨ nu = 3) then (a2 == 3) else false
def pP (nu a0 a1 a2 : Int) : Int := if pOk nu a0 a1 a2 = true ∧ nu = 7 then a0 else 0
def pE (nu a0 a1 a2 : Int) : Int := if pOk nu a0 a1 a2 = true then 0 else 210

theorem parse_any (nu a0 a1 a2 : Int) (w : World) (h0 : 0 ≤ nu) (c0 : 0 ≤ a0) (c1 : a0 ≤ 18446744073709551615) (d0 : 0 ≤ a1) (d1 : a1 ≤ 18446744073709551615) :
    Calls Try.prog 7 #[.agg #[.int .u64 nu, .int .u64 a0, .int .u64 a1, .int .u64 a2]] w fun e w' => e = .returned (.tuple #[.agg #[.int .i8 (pK nu a0 a1 a2), .int .u64 (pF nu a0 a1 a2), .int .i64 (pC nu a0 a1 a2), .bool (pW nu a0 a1 a2), .int .i64 (pP nu a0 a1 a2)], .int .i64 (pE nu a0 a1 a2)]) ∧ Below w.heap.size w w' := by
  have big : 8 ≤ nu ∨ nu = 0 ∨ nu = 1 ∨ nu = 2 ∨ nu = 3 ∨ nu = 4 ∨ nu = 5 ∨ nu = 6 ∨ nu = 7 := by omega
  unfold pK pF pC pW pP pE
  rcases big with h | rfl | rfl | rfl | rfl | rfl | rfl | rfl | rfl
  · have : pOk nu a0 a1 a2 = false := by
      simp only [pOk]
      rw [if_neg (by omega), if_neg (by omega), if_neg (by omega), if_neg (by omega)]
    simp only [this, Bool.false_eq_true, false_and, if_false]
    exact parse_big nu a0 a1 a2 w h c0 c1 d0 d1
  · have : pOk 0 a0 a1 a2 = false := by simp [pOk]
    simp only [this, Bool.false_eq_true, false_and, if_false]
    exact parse0 a0 a1 a2 w c0 c1 d0 d1
  · cases hb : (lenB a0 a1 && rigB a2)
    · have : pOk 1 a0 a1 a2 = false := by simp [pOk] at hb ⊢; exact hb
      simp only [this, Bool.false_eq_true, false_and, if_false]
      exact parse1F a0 a1 a2 w hb c0 c1 d0 d1
    · have : pOk 1 a0 a1 a2 = true := by simp [pOk] at hb ⊢; exact hb
      simp only [this]
      exact parse1T a0 a1 a2 w hb c0 c1 d0 d1
  · cases hb : lenB a0 a1
    · have : pOk 2 a0 a1 a2 = false := by simp [pOk, hb]
      simp only [this, Bool.false_eq_true, false_and, if_false]
      exact parse2F a0 a1 a2 w hb c0 c1 d0 d1
    · have : pOk 2 a0 a1 a2 = true := by simp [pOk, hb]
      simp only [this]
      exact parse2T a0 a1 a2 w hb c0 c1 d0 d1
  · cases hb : (lenB a0 a1 && rigB a2)
    · have : pOk 3 a0 a1 a2 = false := by simp [pOk] at hb ⊢; exact hb
      simp only [this, Bool.false_eq_true, false_and, if_false]
      exact parse3F a0 a1 a2 w hb c0 c1 d0 d1
    · have : pOk 3 a0 a1 a2 = true := by simp [pOk] at hb ⊢; exact hb
      simp only [this]
      exact parse3T a0 a1 a2 w hb c0 c1 d0 d1
  · have : pOk 4 a0 a1 a2 = true := by simp [pOk]
    simp only [this]
    exact parse4 a0 a1 a2 w c0 c1 d0 d1
  · have : pOk 5 a0 a1 a2 = true := by simp [pOk]
    simp only [this]
    exact parse5 a0 a1 a2 w c0 c1 d0 d1
  · have : pOk 6 a0 a1 a2 = true := by simp [pOk]
    simp only [this]
    exact parse6 a0 a1 a2 w c0 c1 d0 d1
  · by_cases hb : a0 < 64
    · have : pOk 7 a0 a1 a2 = true := by simp [pOk, hb]
      simp only [this]
      exact parse7T a0 a1 a2 w hb c0 c1 d0 d1
    · have : pOk 7 a0 a1 a2 = false := by simp [pOk]; omega
      simp only [this, Bool.false_eq_true, false_and, if_false]
      exact parse7F a0 a1 a2 w (by omega) c0 c1 d0 d1

theorem word_ok (n : Int) (w : World) (h0 : 0 ≤ n) (h1 : n ≤ 9223372036854775807) :
    Calls Try.prog 17 #[.int .i64 n] w fun e w' => e = .returned (.int .u64 n) ∧ w = w' := by
  go_enter Try.func17, Try.ntmps17
  go_wp2
  go_ret
  exact ⟨rfl, rfl⟩
theorem word12 (w : World) : Calls Try.prog 17 #[.int .i64 (-12)] w fun e w' => e = .returned (.int .u64 18446744073709551604) ∧ w = w' := by
  go_enter Try.func17, Try.ntmps17
  go_wp2
  go_ret
  exact ⟨rfl, rfl⟩
theorem word11 (w : World) : Calls Try.prog 17 #[.int .i64 (-11)] w fun e w' => e = .returned (.int .u64 18446744073709551605) ∧ w = w' := by
  go_enter Try.func17, Try.ntmps17
  go_wp2
  go_ret
  exact ⟨rfl, rfl⟩
theorem word22 (w : World) : Calls Try.prog 17 #[.int .i64 (-22)] w fun e w' => e = .returned (.int .u64 18446744073709551594) ∧ w = w' := by
  go_enter Try.func17, Try.ntmps17
  go_wp2
  go_ret
  exact ⟨rfl, rfl⟩

/-- What Result answers. -/
def resW (n e : Int) : Int := if e = 0 then max n 0 else if e = 211 then 18446744073709551604 else if e = 20 then 18446744073709551605 else 18446744073709551594

theorem result_any (n e : Int) (w : World) (h1 : n ≤ 9223372036854775807) :
    Calls Try.prog 11 #[.int .i64 n, .int .i64 e] w fun en w' => en = .returned (.int .u64 (resW n e)) ∧ w = w' := by
  unfold resW
  by_cases e0 : e = 0
  · subst e0
    by_cases hn : n < 0
    · rw [if_pos rfl, show max n 0 = 0 by omega]
      go_enter Try.func11, Try.ntmps11
      go_wp2_with fail
      refine (word_ok _ _ (by omega) (by omega)).mono ?_
      rintro e w' ⟨rfl, rfl⟩
      go_wp2_with fail
      go_ret
      exact ⟨rfl, rfl⟩
    · rw [if_pos rfl, show max n 0 = n by omega]
      go_enter Try.func11, Try.ntmps11
      go_wp2_with fail
      refine (word_ok _ _ (by omega) (by omega)).mono ?_
      rintro e w' ⟨rfl, rfl⟩
      go_wp2_with fail
      go_ret
      exact ⟨rfl, rfl⟩
  rw [if_neg e0]
  have t0 : (e == 0) = false := by simpa using e0
  by_cases e1 : e = 211
  · subst e1
    rw [if_pos rfl]
    go_enter Try.func11, Try.ntmps11
    go_wp2_with fail
    refine (word12 _).mono ?_
    rintro e w' ⟨rfl, rfl⟩
    go_wp2_with fail
    go_ret
    exact ⟨rfl, rfl⟩
  rw [if_neg e1]
  have t1 : (e == 211) = false := by simpa using e1
  by_cases e2 : e = 20
  · subst e2
    rw [if_pos rfl]
    go_enter Try.func11, Try.ntmps11
    go_wp2_with fail
    refine (word11 _).mono ?_
    rintro e w' ⟨rfl, rfl⟩
    go_wp2_with fail
    go_ret
    exact ⟨rfl, rfl⟩
  rw [if_neg e2]
  have t2 : (e == 20) = false := by simpa using e2
  clear e0 e1 e2
  go_enter Try.func11, Try.ntmps11
  go_wp2_with fail
  refine (word22 _).mono ?_
  rintro e w' ⟨rfl, rfl⟩
  go_wp2_with fail
  go_ret
  exact ⟨rfl, rfl⟩

theorem cells5 {w : World} {b : Nat} {x0 x1 x2 x3 x4 : Value} {t : TypeId} (h : w.heap[b]? = some (.cells #[x0, x1, x2, x3, x4] t (0, 0))) :
    w.cell? ⟨b, 0, none⟩ = some x0 ∧ w.cell? ⟨b, 1, none⟩ = some x1 ∧ w.cell? ⟨b, 2, none⟩ = some x2 ∧ w.cell? ⟨b, 3, none⟩ = some x3 ∧ w.cell? ⟨b, 4, none⟩ = some x4 := by
  simp [World.cell?, h]
theorem cells4 {w : World} {b : Nat} {x0 x1 x2 x3 : Value} {t : TypeId} (h : w.heap[b]? = some (.cells #[x0, x1, x2, x3] t (0, 0))) :
    w.cell? ⟨b, 0, none⟩ = some x0 ∧ w.cell? ⟨b, 1, none⟩ = some x1 ∧ w.cell? ⟨b, 2, none⟩ = some x2 ∧ w.cell? ⟨b, 3, none⟩ = some x3 := by
  simp [World.cell?, h]
theorem cells3 {w : World} {b : Nat} {x0 x1 x2 : Value} {t : TypeId} (h : w.heap[b]? = some (.cells #[x0, x1, x2] t (0, 0))) :
    w.cell? ⟨b, 0, none⟩ = some x0 ∧ w.cell? ⟨b, 1, none⟩ = some x1 ∧ w.cell? ⟨b, 2, none⟩ = some x2 := by
  simp [World.cell?, h]

theorem wakes_ok (w : World) : Calls Try.prog 8 #[] w fun e w' => e = .returned (.bool true) ∧ Below w.heap.size w w' := by
  go_enter Try.func8, Try.ntmps8
  go_wp2_with fail
  refine (parse_any 1 16384 8192 3 _ (by omega) (by omega) (by omega) (by omega) (by omega)).mono ?_
  rw [show pK 1 16384 8192 3 = 1 by decide, show pF 1 16384 8192 3 = 4 by decide, show pC 1 16384 8192 3 = 2 by decide, show pW 1 16384 8192 3 = true by decide, show pP 1 16384 8192 3 = 0 by decide, show pE 1 16384 8192 3 = 0 by decide]
  rintro e w1 ⟨rfl, hb⟩
  have B1 := Lib.hid hb
  clear hb
  go_wp2_with fail
  refine (parse_any 1 16385 8192 3 _ (by omega) (by omega) (by omega) (by omega) (by omega)).mono ?_
  rw [show pK 1 16385 8192 3 = 0 by decide, show pF 1 16385 8192 3 = 0 by decide, show pC 1 16385 8192 3 = 0 by decide, show pW 1 16385 8192 3 = false by decide, show pP 1 16385 8192 3 = 0 by decide, show pE 1 16385 8192 3 = 210 by decide]
  rintro e w2 ⟨rfl, hb⟩
  have B2 := Lib.hid hb
  clear hb
  go_wp2_with fail
  refine (parse_any 2 18446744073709547520 4096 0 _ (by omega) (by omega) (by omega) (by omega) (by omega)).mono ?_
  rw [show pK 2 18446744073709547520 4096 0 = 0 by decide, show pF 2 18446744073709547520 4096 0 = 0 by decide, show pC 2 18446744073709547520 4096 0 = 0 by decide, show pW 2 18446744073709547520 4096 0 = false by decide, show pP 2 18446744073709547520 4096 0 = 0 by decide, show pE 2 18446744073709547520 4096 0 = 210 by decide]
  rintro e w3 ⟨rfl, hb⟩
  have B3 := Lib.hid hb
  clear hb
  have s1 := B1.out.size
  have s2 := B2.out.size
  have s3 := B3.out.size
  simp at s2 s3
  have l1 : w1.heap.size < w2.heap.size := by omega
  have l2 : w1.heap.size < w3.heap.size := by omega
  have hblk : w3.heap[w1.heap.size]? = some (Obj.cells #[.int .i8 1, .int .u64 4, .int .i64 2, .bool true, .int .i64 0] 28 (0, 0)) := by
    rw [B3.out.block _ (by simp; omega), Below.heap_alloc _ _ _ l1, B2.out.block _ (by simp), heap_alloc_new]
  obtain ⟨k0, k1, k2, k3, k4⟩ := cells5 hblk
  clear hblk
  go_wp2_with fail
  refine (result_any 0 210 _ (by omega)).mono ?_
  rw [show resW 0 210 = 18446744073709551594 by decide]
  rintro e w4 ⟨rfl, rfl⟩
  go_wp2_with fail
  go_ret
  have b1 := B1.out.alloc B1.out.size (.cells #[.int .i8 1, .int .u64 4, .int .i64 2, .bool true, .int .i64 0] 28)
  have b2 := b1.trans (B2.out.mono (by simp; omega))
  have b3 := b2.alloc b2.size (.cells #[.int .i8 0, .int .u64 0, .int .i64 0, .bool false, .int .i64 0] 28)
  have b4 := b3.trans (B3.out.mono (by simp; omega))
  exact ⟨rfl, b4.alloc b4.size _⟩
end Go.Proofs.Ytgfnefcgpdkljaa
