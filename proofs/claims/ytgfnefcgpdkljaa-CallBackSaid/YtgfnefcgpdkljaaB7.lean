/- Layer 21: the document's Parse. -/
import Derived.Test.YtgfnefcgpdkljaaB5
namespace Go.Proofs.Ytgfnefcgpdkljaa
open Go.ChangeShapes Go.WideShapes Go.ChangeAt Go.RowKit
set_option linter.unusedVariables false

theorem rstretchF (a n : Int) (w : World) (hb : lenB a n = false) (a0 : 0 ≤ a) (a1 : a ≤ 18446744073709551615) (n0 : 0 ≤ n) (n1 : n ≤ 18446744073709551615) :
    Calls Try.prog 18 #[.int .u64 a, .int .u64 n] w fun e w' => e = .returned (.tuple #[.int .u64 0, .int .i64 0, .bool false]) ∧ w = w' := by
  unfold lenB at hb
  have HB := Lib.hid hb
  clear hb
  cases h1 : (a % 4096 == 0)
  · have g1 : (a % 4096 != 0) = true := by simpa [bne] using h1
    clear h1
    go_enter Try.func18, Try.ntmps18
    go_wp2
    go_ret3
    exact ⟨rfl, rfl⟩
  have g1 : (a % 4096 != 0) = false := by simpa [bne] using h1
  cases h2 : (n % 4096 == 0)
  · have g2 : (n % 4096 != 0) = true := by simpa [bne] using h2
    clear h1 h2
    go_enter Try.func18, Try.ntmps18
    go_wp2
    go_ret3
    exact ⟨rfl, rfl⟩
  have g2 : (n % 4096 != 0) = false := by simpa [bne] using h2
  by_cases h3 : 0 < n
  · have g3 : (n == 0) = false := by simp; omega
    by_cases h4 : n ≤ 140737488355328
    · have g4 : decide (140737488355328 < n) = false := by simp; omega
      have h5 : ¬ a ≤ 140737488355328 - n := by
        have := HB.out
        simp only [h1, h2, Bool.true_and, decide_eq_true h3, decide_eq_true h4] at this
        simpa using this
      have g5 : decide (140737488355328 - n < a) = true := by simp; omega
      clear h1 h2
      go_enter Try.func18, Try.ntmps18
      go_wp2
      go_ret3
      exact ⟨rfl, rfl⟩
    · have g4 : decide (140737488355328 < n) = true := by simp; omega
      clear h1 h2
      go_enter Try.func18, Try.ntmps18
      go_wp2
      go_ret3
      exact ⟨rfl, rfl⟩
  · have g3 : (n == 0) = true := by simp; omega
    clear h1 h2
    go_enter Try.func18, Try.ntmps18
    go_wp2
    go_ret3
    exact ⟨rfl, rfl⟩

theorem lenB_true {a n : Int} (h : lenB a n = true) : a % 4096 = 0 ∧ n % 4096 = 0 ∧ 0 < n ∧ n ≤ 140737488355328 ∧ a ≤ 140737488355328 - n := by
  simpa [lenB] using h

theorem rstretchT (a n : Int) (w : World) (hb : lenB a n = true) (a0 : 0 ≤ a) (a1 : a ≤ 18446744073709551615) (n0 : 0 ≤ n) (n1 : n ≤ 18446744073709551615) :
    Calls Try.prog 18 #[.int .u64 a, .int .u64 n] w fun e w' => e = .returned (.tuple #[.int .u64 (a / 4096), .int .i64 (min (n / 4096) 1048576), .bool true]) ∧ w = w' := by
  obtain ⟨h1, h2, h3, h4, h5⟩ := lenB_true hb
  have g1 : (a % 4096 != 0) = false := by simpa using h1
  have g2 : (n % 4096 != 0) = false := by simpa using h2
  have g3 : (n == 0) = false := by simp; omega
  have g4 : decide (140737488355328 < n) = false := by simp; omega
  have g5 : decide (140737488355328 - n < a) = false := by simp; omega
  clear hb h1 h2
  by_cases hm : n / 4096 ≤ 1048576
  · rw [show min (n / 4096) 1048576 = n / 4096 by omega]
    go_enter Try.func18, Try.ntmps18
    go_wp2
    go_ret3
    exact ⟨rfl, rfl⟩
  · rw [show min (n / 4096) 1048576 = 1048576 by omega]
    go_enter Try.func18, Try.ntmps18
    go_wp2
    go_ret3
    exact ⟨rfl, rfl⟩

theorem rrights (x : Int) (w : World) :
    Calls Try.prog 19 #[.int .u64 x] w fun e w' => e = .returned (.tuple #[.bool (x == 3), .bool (rigB x)]) ∧ w = w' := by
  unfold rigB
  cases h1 : (x == 1)
  · go_enter Try.func19, Try.ntmps19
    go_wp2
    go_ret2
    exact ⟨rfl, rfl⟩
  · go_enter Try.func19, Try.ntmps19
    go_wp2
    go_ret2
    exact ⟨rfl, rfl⟩

theorem rparse1TT (a0 a1 a2 : Int) (w : World)  (hl : lenB a0 a1 = true) (hr : rigB a2 = true) (c0 : 0 ≤ a0) (c1 : a0 ≤ 18446744073709551615) (d0 : 0 ≤ a1) (d1 : a1 ≤ 18446744073709551615) :
    Calls Try.prog 13 #[.agg #[.int .u64 1, .int .u64 a0, .int .u64 a1, .int .u64 a2]] w fun e w' => e = .returned (.tuple #[.agg #[.int .i8 1, .int .u64 (a0 / 4096), .int .i64 (min (a1 / 4096) 1048576), .bool (a2 == 3), .int .i64 0], .int .i64 0]) ∧ Below w.heap.size w w' := by
  have HL := Lib.hid hl; have HR := Lib.hid hr
  clear hl hr
  go_enter Try.func13, Try.ntmps13
  go_wp2_with fail
  refine (rstretchT a0 a1 _ HL.out c0 c1 d0 d1).mono ?_
  rintro e w' ⟨rfl, rfl⟩
  go_wp2_with fail
  refine (rrights a2 _).mono ?_
  rw [HR.out]
  rintro e w' ⟨rfl, rfl⟩
  go_wp2_with fail
  refine bodyPost_ret (v := .tuple #[.agg #[.int .i8 1, .int .u64 (a0 / 4096), .int .i64 (min (a1 / 4096) 1048576), .bool (a2 == 3), .int .i64 0], .int .i64 0]) (by simp [results, Try.results13, go_sem]) rfl ⟨rfl, ?_⟩
  exact ((Below.refl _ _).alloc (Nat.le_refl _) _).alloc (by simp) _

theorem rparse3TT (a0 a1 a2 : Int) (w : World)  (hl : lenB a0 a1 = true) (hr : rigB a2 = true) (c0 : 0 ≤ a0) (c1 : a0 ≤ 18446744073709551615) (d0 : 0 ≤ a1) (d1 : a1 ≤ 18446744073709551615) :
    Calls Try.prog 13 #[.agg #[.int .u64 3, .int .u64 a0, .int .u64 a1, .int .u64 a2]] w fun e w' => e = .returned (.tuple #[.agg #[.int .i8 3, .int .u64 (a0 / 4096), .int .i64 (min (a1 / 4096) 1048576), .bool (a2 == 3), .int .i64 0], .int .i64 0]) ∧ Below w.heap.size w w' := by
  have HL := Lib.hid hl; have HR := Lib.hid hr
  clear hl hr
  go_enter Try.func13, Try.ntmps13
  go_wp2_with fail
  refine (rstretchT a0 a1 _ HL.out c0 c1 d0 d1).mono ?_
  rintro e w' ⟨rfl, rfl⟩
  go_wp2_with fail
  refine (rrights a2 _).mono ?_
  rw [HR.out]
  rintro e w' ⟨rfl, rfl⟩
  go_wp2_with fail
  refine bodyPost_ret (v := .tuple #[.agg #[.int .i8 3, .int .u64 (a0 / 4096), .int .i64 (min (a1 / 4096) 1048576), .bool (a2 == 3), .int .i64 0], .int .i64 0]) (by simp [results, Try.results13, go_sem]) rfl ⟨rfl, ?_⟩
  exact ((Below.refl _ _).alloc (Nat.le_refl _) _).alloc (by simp) _

theorem rparse2TT (a0 a1 a2 : Int) (w : World)  (hl : lenB a0 a1 = true) (hr : rigB a2 = true) (c0 : 0 ≤ a0) (c1 : a0 ≤ 18446744073709551615) (d0 : 0 ≤ a1) (d1 : a1 ≤ 18446744073709551615) :
    Calls Try.prog 13 #[.agg #[.int .u64 2, .int .u64 a0, .int .u64 a1, .int .u64 a2]] w fun e w' => e = .returned (.tuple #[.agg #[.int .i8 2, .int .u64 (a0 / 4096), .int .i64 (min (a1 / 4096) 1048576), .bool false, .int .i64 0], .int .i64 0]) ∧ Below w.heap.size w w' := by
  have HL := Lib.hid hl; have HR := Lib.hid hr
  clear hl hr
  go_enter Try.func13, Try.ntmps13
  go_wp2_with fail
  refine (rstretchT a0 a1 _ HL.out c0 c1 d0 d1).mono ?_
  rintro e w' ⟨rfl, rfl⟩
  go_wp2_with fail
  refine (rrights a2 _).mono ?_
  rw [HR.out]
  rintro e w' ⟨rfl, rfl⟩
  go_wp2_with fail
  refine bodyPost_ret (v := .tuple #[.agg #[.int .i8 2, .int .u64 (a0 / 4096), .int .i64 (min (a1 / 4096) 1048576), .bool false, .int .i64 0], .int .i64 0]) (by simp [results, Try.results13, go_sem]) rfl ⟨rfl, ?_⟩
  exact ((Below.refl _ _).alloc (Nat.le_refl _) _).alloc (by simp) _

theorem rparse4TT (a0 a1 a2 : Int) (w : World)  (hl : lenB a0 a1 = true) (hr : rigB a2 = true) (c0 : 0 ≤ a0) (c1 : a0 ≤ 18446744073709551615) (d0 : 0 ≤ a1) (d1 : a1 ≤ 18446744073709551615) :
    Calls Try.prog 13 #[.agg #[.int .u64 4, .int .u64 a0, .int .u64 a1, .int .u64 a2]] w fun e w' => e = .returned (.tuple #[.agg #[.int .i8 4, .int .u64 0, .int .i64 0, .bool false, .int .i64 0], .int .i64 0]) ∧ Below w.heap.size w w' := by
  have HL := Lib.hid hl; have HR := Lib.hid hr
  clear hl hr
  go_enter Try.func13, Try.ntmps13
  go_wp2_with fail
  refine (rstretchT a0 a1 _ HL.out c0 c1 d0 d1).mono ?_
  rintro e w' ⟨rfl, rfl⟩
  go_wp2_with fail
  refine (rrights a2 _).mono ?_
  rw [HR.out]
  rintro e w' ⟨rfl, rfl⟩
  go_wp2_with fail
  refine bodyPost_ret (v := .tuple #[.agg #[.int .i8 4, .int .u64 0, .int .i64 0, .bool false, .int .i64 0], .int .i64 0]) (by simp [results, Try.results13, go_sem]) rfl ⟨rfl, ?_⟩
  exact ((Below.refl _ _).alloc (Nat.le_refl _) _).alloc (by simp) _

theorem rparse5TT (a0 a1 a2 : Int) (w : World)  (hl : lenB a0 a1 = true) (hr : rigB a2 = true) (c0 : 0 ≤ a0) (c1 : a0 ≤ 18446744073709551615) (d0 : 0 ≤ a1) (d1 : a1 ≤ 18446744073709551615) :
    Calls Try.prog 13 #[.agg #[.int .u64 5, .int .u64 a0, .int .u64 a1, .int .u64 a2]] w fun e w' => e = .returned (.tuple #[.agg #[.int .i8 5, .int .u64 0, .int .i64 0, .bool false, .int .i64 0], .int .i64 0]) ∧ Below w.heap.size w w' := by
  have HL := Lib.hid hl; have HR := Lib.hid hr
  clear hl hr
  go_enter Try.func13, Try.ntmps13
  go_wp2_with fail
  refine (rstretchT a0 a1 _ HL.out c0 c1 d0 d1).mono ?_
  rintro e w' ⟨rfl, rfl⟩
  go_wp2_with fail
  refine (rrights a2 _).mono ?_
  rw [HR.out]
  rintro e w' ⟨rfl, rfl⟩
  go_wp2_with fail
  refine bodyPost_ret (v := .tuple #[.agg #[.int .i8 5, .int .u64 0, .int .i64 0, .bool false, .int .i64 0], .int .i64 0]) (by simp [results, Try.results13, go_sem]) rfl ⟨rfl, ?_⟩
  exact ((Below.refl _ _).alloc (Nat.le_refl _) _).alloc (by simp) _

theorem rparse6TT (a0 a1 a2 : Int) (w : World)  (hl : lenB a0 a1 = true) (hr : rigB a2 = true) (c0 : 0 ≤ a0) (c1 : a0 ≤ 18446744073709551615) (d0 : 0 ≤ a1) (d1 : a1 ≤ 18446744073709551615) :
    Calls Try.prog 13 #[.agg #[.int .u64 6, .int .u64 a0, .int .u64 a1, .int .u64 a2]] w fun e w' => e = .returned (.tuple #[.agg #[.int .i8 6, .int .u64 0, .int .i64 0, .bool false, .int .i64 0], .int .i64 0]) ∧ Below w.heap.size w w' := by
  have HL := Lib.hid hl; have HR := Lib.hid hr
  clear hl hr
  go_enter Try.func13, Try.ntmps13
  go_wp2_with fail
  refine (rstretchT a0 a1 _ HL.out c0 c1 d0 d1).mono ?_
  rintro e w' ⟨rfl, rfl⟩
  go_wp2_with fail
  refine (rrights a2 _).mono ?_
  rw [HR.out]
  rintro e w' ⟨rfl, rfl⟩
  go_wp2_with fail
  refine bodyPost_ret (v := .tuple #[.agg #[.int .i8 6, .int .u64 0, .int .i64 0, .bool false, .int .i64 0], .int .i64 0]) (by simp [results, Try.results13, go_sem]) rfl ⟨rfl, ?_⟩
  exact ((Below.refl _ _).alloc (Nat.le_refl _) _).alloc (by simp) _

theorem rparse7TTT (a0 a1 a2 : Int) (w : World) (h7 : a0 < 64) (hl : lenB a0 a1 = true) (hr : rigB a2 = true) (c0 : 0 ≤ a0) (c1 : a0 ≤ 18446744073709551615) (d0 : 0 ≤ a1) (d1 : a1 ≤ 18446744073709551615) :
    Calls Try.prog 13 #[.agg #[.int .u64 7, .int .u64 a0, .int .u64 a1, .int .u64 a2]] w fun e w' => e = .returned (.tuple #[.agg #[.int .i8 7, .int .u64 0, .int .i64 0, .bool false, .int .i64 a0], .int .i64 0]) ∧ Below w.heap.size w w' := by
  have HL := Lib.hid hl; have HR := Lib.hid hr
  clear hl hr
  go_enter Try.func13, Try.ntmps13
  go_wp2_with fail
  refine (rstretchT a0 a1 _ HL.out c0 c1 d0 d1).mono ?_
  rintro e w' ⟨rfl, rfl⟩
  go_wp2_with fail
  refine (rrights a2 _).mono ?_
  rw [HR.out]
  rintro e w' ⟨rfl, rfl⟩
  go_wp2_with fail
  refine bodyPost_ret (v := .tuple #[.agg #[.int .i8 7, .int .u64 0, .int .i64 0, .bool false, .int .i64 a0], .int .i64 0]) (by simp [results, Try.results13, go_sem]) rfl ⟨rfl, ?_⟩
  exact ((Below.refl _ _).alloc (Nat.le_refl _) _).alloc (by simp) _

theorem rparse7FTT (a0 a1 a2 : Int) (w : World) (h7 : 64 ≤ a0) (hl : lenB a0 a1 = true) (hr : rigB a2 = true) (c0 : 0 ≤ a0) (c1 : a0 ≤ 18446744073709551615) (d0 : 0 ≤ a1) (d1 : a1 ≤ 18446744073709551615) :
    Calls Try.prog 13 #[.agg #[.int .u64 7, .int .u64 a0, .int .u64 a1, .int .u64 a2]] w fun e w' => e = .returned (.tuple #[.agg #[.int .i8 0, .int .u64 0, .int .i64 0, .bool false, .int .i64 0], .int .i64 210]) ∧ Below w.heap.size w w' := by
  have HL := Lib.hid hl; have HR := Lib.hid hr
  clear hl hr
  go_enter Try.func13, Try.ntmps13
  go_wp2_with fail
  refine (rstretchT a0 a1 _ HL.out c0 c1 d0 d1).mono ?_
  rintro e w' ⟨rfl, rfl⟩
  go_wp2_with fail
  refine (rrights a2 _).mono ?_
  rw [HR.out]
  rintro e w' ⟨rfl, rfl⟩
  go_wp2_with fail
  refine bodyPost_ret (v := .tuple #[.agg #[.int .i8 0, .int .u64 0, .int .i64 0, .bool false, .int .i64 0], .int .i64 210]) (by simp [results, Try.results13, go_sem]) rfl ⟨rfl, ?_⟩
  exact ((Below.refl _ _).alloc (Nat.le_refl _) _).alloc (by simp) _

theorem rparseNTT (nu a0 a1 a2 : Int) (w : World) (hn : nu = 0 ∨ 8 ≤ nu) (hl : lenB a0 a1 = true) (hr : rigB a2 = true) (c0 : 0 ≤ a0) (c1 : a0 ≤ 18446744073709551615) (d0 : 0 ≤ a1) (d1 : a1 ≤ 18446744073709551615) :
    Calls Try.prog 13 #[.agg #[.int .u64 nu, .int .u64 a0, .int .u64 a1, .int .u64 a2]] w fun e w' => e = .returned (.tuple #[.agg #[.int .i8 0, .int .u64 0, .int .i64 0, .bool false, .int .i64 0], .int .i64 210]) ∧ Below w.heap.size w w' := by
  have HL := Lib.hid hl; have HR := Lib.hid hr
  clear hl hr
  have t1 : (nu == 1) = false := by simp; omega
  have t2 : (nu == 2) = false := by simp; omega
  have t3 : (nu == 3) = false := by simp; omega
  have t4 : (nu == 4) = false := by simp; omega
  have t5 : (nu == 5) = false := by simp; omega
  have t6 : (nu == 6) = false := by simp; omega
  have t7 : (nu == 7) = false := by simp; omega
  clear hn
  go_enter Try.func13, Try.ntmps13
  go_wp2_with fail
  refine (rstretchT a0 a1 _ HL.out c0 c1 d0 d1).mono ?_
  rintro e w' ⟨rfl, rfl⟩
  go_wp2_with fail
  refine (rrights a2 _).mono ?_
  rw [HR.out]
  rintro e w' ⟨rfl, rfl⟩
  go_wp2_with fail
  refine bodyPost_ret (v := .tuple #[.agg #[.int .i8 0, .int .u64 0, .int .i64 0, .bool false, .int .i64 0], .int .i64 210]) (by simp [results, Try.results13, go_sem]) rfl ⟨rfl, ?_⟩
  exact ((Below.refl _ _).alloc (Nat.le_refl _) _).alloc (by simp) _

theorem rparse1TF (a0 a1 a2 : Int) (w : World)  (hl : lenB a0 a1 = true) (hr : rigB a2 = false) (c0 : 0 ≤ a0) (c1 : a0 ≤ 18446744073709551615) (d0 : 0 ≤ a1) (d1 : a1 ≤ 18446744073709551615) :
    Calls Try.prog 13 #[.agg #[.int .u64 1, .int .u64 a0, .int .u64 a1, .int .u64 a2]] w fun e w' => e = .returned (.tuple #[.agg #[.int .i8 0, .int .u64 0, .int .i64 0, .bool false, .int .i64 0], .int .i64 210]) ∧ Below w.heap.size w w' := by
  have HL := Lib.hid hl; have HR := Lib.hid hr
  clear hl hr
  go_enter Try.func13, Try.ntmps13
  go_wp2_with fail
  refine (rstretchT a0 a1 _ HL.out c0 c1 d0 d1).mono ?_
  rintro e w' ⟨rfl, rfl⟩
  go_wp2_with fail
  refine (rrights a2 _).mono ?_
  rw [HR.out]
  rintro e w' ⟨rfl, rfl⟩
  go_wp2_with fail
  refine bodyPost_ret (v := .tuple #[.agg #[.int .i8 0, .int .u64 0, .int .i64 0, .bool false, .int .i64 0], .int .i64 210]) (by simp [results, Try.results13, go_sem]) rfl ⟨rfl, ?_⟩
  exact ((Below.refl _ _).alloc (Nat.le_refl _) _).alloc (by simp) _

theorem rparse3TF (a0 a1 a2 : Int) (w : World)  (hl : lenB a0 a1 = true) (hr : rigB a2 = false) (c0 : 0 ≤ a0) (c1 : a0 ≤ 18446744073709551615) (d0 : 0 ≤ a1) (d1 : a1 ≤ 18446744073709551615) :
    Calls Try.prog 13 #[.agg #[.int .u64 3, .int .u64 a0, .int .u64 a1, .int .u64 a2]] w fun e w' => e = .returned (.tuple #[.agg #[.int .i8 0, .int .u64 0, .int .i64 0, .bool false, .int .i64 0], .int .i64 210]) ∧ Below w.heap.size w w' := by
  have HL := Lib.hid hl; have HR := Lib.hid hr
  clear hl hr
  go_enter Try.func13, Try.ntmps13
  go_wp2_with fail
  refine (rstretchT a0 a1 _ HL.out c0 c1 d0 d1).mono ?_
  rintro e w' ⟨rfl, rfl⟩
  go_wp2_with fail
  refine (rrights a2 _).mono ?_
  rw [HR.out]
  rintro e w' ⟨rfl, rfl⟩
  go_wp2_with fail
  refine bodyPost_ret (v := .tuple #[.agg #[.int .i8 0, .int .u64 0, .int .i64 0, .bool false, .int .i64 0], .int .i64 210]) (by simp [results, Try.results13, go_sem]) rfl ⟨rfl, ?_⟩
  exact ((Below.refl _ _).alloc (Nat.le_refl _) _).alloc (by simp) _

theorem rparse2TF (a0 a1 a2 : Int) (w : World)  (hl : lenB a0 a1 = true) (hr : rigB a2 = false) (c0 : 0 ≤ a0) (c1 : a0 ≤ 18446744073709551615) (d0 : 0 ≤ a1) (d1 : a1 ≤ 18446744073709551615) :
    Calls Try.prog 13 #[.agg #[.int .u64 2, .int .u64 a0, .int .u64 a1, .int .u64 a2]] w fun e w' => e = .returned (.tuple #[.agg #[.int .i8 2, .int .u64 (a0 / 4096), .int .i64 (min (a1 / 4096) 1048576), .bool false, .int .i64 0], .int .i64 0]) ∧ Below w.heap.size w w' := by
  have HL := Lib.hid hl; have HR := Lib.hid hr
  clear hl hr
  go_enter Try.func13, Try.ntmps13
  go_wp2_with fail
  refine (rstretchT a0 a1 _ HL.out c0 c1 d0 d1).mono ?_
  rintro e w' ⟨rfl, rfl⟩
  go_wp2_with fail
  refine (rrights a2 _).mono ?_
  rw [HR.out]
  rintro e w' ⟨rfl, rfl⟩
  go_wp2_with fail
  refine bodyPost_ret (v := .tuple #[.agg #[.int .i8 2, .int .u64 (a0 / 4096), .int .i64 (min (a1 / 4096) 1048576), .bool false, .int .i64 0], .int .i64 0]) (by simp [results, Try.results13, go_sem]) rfl ⟨rfl, ?_⟩
  exact ((Below.refl _ _).alloc (Nat.le_refl _) _).alloc (by simp) _

theorem rparse4TF (a0 a1 a2 : Int) (w : World)  (hl : lenB a0 a1 = true) (hr : rigB a2 = false) (c0 : 0 ≤ a0) (c1 : a0 ≤ 18446744073709551615) (d0 : 0 ≤ a1) (d1 : a1 ≤ 18446744073709551615) :
    Calls Try.prog 13 #[.agg #[.int .u64 4, .int .u64 a0, .int .u64 a1, .int .u64 a2]] w fun e w' => e = .returned (.tuple #[.agg #[.int .i8 4, .int .u64 0, .int .i64 0, .bool false, .int .i64 0], .int .i64 0]) ∧ Below w.heap.size w w' := by
  have HL := Lib.hid hl; have HR := Lib.hid hr
  clear hl hr
  go_enter Try.func13, Try.ntmps13
  go_wp2_with fail
  refine (rstretchT a0 a1 _ HL.out c0 c1 d0 d1).mono ?_
  rintro e w' ⟨rfl, rfl⟩
  go_wp2_with fail
  refine (rrights a2 _).mono ?_
  rw [HR.out]
  rintro e w' ⟨rfl, rfl⟩
  go_wp2_with fail
  refine bodyPost_ret (v := .tuple #[.agg #[.int .i8 4, .int .u64 0, .int .i64 0, .bool false, .int .i64 0], .int .i64 0]) (by simp [results, Try.results13, go_sem]) rfl ⟨rfl, ?_⟩
  exact ((Below.refl _ _).alloc (Nat.le_refl _) _).alloc (by simp) _

theorem rparse5TF (a0 a1 a2 : Int) (w : World)  (hl : lenB a0 a1 = true) (hr : rigB a2 = false) (c0 : 0 ≤ a0) (c1 : a0 ≤ 18446744073709551615) (d0 : 0 ≤ a1) (d1 : a1 ≤ 18446744073709551615) :
    Calls Try.prog 13 #[.agg #[.int .u64 5, .int .u64 a0, .int .u64 a1, .int .u64 a2]] w fun e w' => e = .returned (.tuple #[.agg #[.int .i8 5, .int .u64 0, .int .i64 0, .bool false, .int .i64 0], .int .i64 0]) ∧ Below w.heap.size w w' := by
  have HL := Lib.hid hl; have HR := Lib.hid hr
  clear hl hr
  go_enter Try.func13, Try.ntmps13
  go_wp2_with fail
  refine (rstretchT a0 a1 _ HL.out c0 c1 d0 d1).mono ?_
  rintro e w' ⟨rfl, rfl⟩
  go_wp2_with fail
  refine (rrights a2 _).mono ?_
  rw [HR.out]
  rintro e w' ⟨rfl, rfl⟩
  go_wp2_with fail
  refine bodyPost_ret (v := .tuple #[.agg #[.int .i8 5, .int .u64 0, .int .i64 0, .bool false, .int .i64 0], .int .i64 0]) (by simp [results, Try.results13, go_sem]) rfl ⟨rfl, ?_⟩
  exact ((Below.refl _ _).alloc (Nat.le_refl _) _).alloc (by simp) _

theorem rparse6TF (a0 a1 a2 : Int) (w : World)  (hl : lenB a0 a1 = true) (hr : rigB a2 = false) (c0 : 0 ≤ a0) (c1 : a0 ≤ 18446744073709551615) (d0 : 0 ≤ a1) (d1 : a1 ≤ 18446744073709551615) :
    Calls Try.prog 13 #[.agg #[.int .u64 6, .int .u64 a0, .int .u64 a1, .int .u64 a2]] w fun e w' => e = .returned (.tuple #[.agg #[.int .i8 6, .int .u64 0, .int .i64 0, .bool false, .int .i64 0], .int .i64 0]) ∧ Below w.heap.size w w' := by
  have HL := Lib.hid hl; have HR := Lib.hid hr
  clear hl hr
  go_enter Try.func13, Try.ntmps13
  go_wp2_with fail
  refine (rstretchT a0 a1 _ HL.out c0 c1 d0 d1).mono ?_
  rintro e w' ⟨rfl, rfl⟩
  go_wp2_with fail
  refine (rrights a2 _).mono ?_
  rw [HR.out]
  rintro e w' ⟨rfl, rfl⟩
  go_wp2_with fail
  refine bodyPost_ret (v := .tuple #[.agg #[.int .i8 6, .int .u64 0, .int .i64 0, .bool false, .int .i64 0], .int .i64 0]) (by simp [results, Try.results13, go_sem]) rfl ⟨rfl, ?_⟩
  exact ((Below.refl _ _).alloc (Nat.le_refl _) _).alloc (by simp) _

theorem rparse7TTF (a0 a1 a2 : Int) (w : World) (h7 : a0 < 64) (hl : lenB a0 a1 = true) (hr : rigB a2 = false) (c0 : 0 ≤ a0) (c1 : a0 ≤ 18446744073709551615) (d0 : 0 ≤ a1) (d1 : a1 ≤ 18446744073709551615) :
    Calls Try.prog 13 #[.agg #[.int .u64 7, .int .u64 a0, .int .u64 a1, .int .u64 a2]] w fun e w' => e = .returned (.tuple #[.agg #[.int .i8 7, .int .u64 0, .int .i64 0, .bool false, .int .i64 a0], .int .i64 0]) ∧ Below w.heap.size w w' := by
  have HL := Lib.hid hl; have HR := Lib.hid hr
  clear hl hr
  go_enter Try.func13, Try.ntmps13
  go_wp2_with fail
  refine (rstretchT a0 a1 _ HL.out c0 c1 d0 d1).mono ?_
  rintro e w' ⟨rfl, rfl⟩
  go_wp2_with fail
  refine (rrights a2 _).mono ?_
  rw [HR.out]
  rintro e w' ⟨rfl, rfl⟩
  go_wp2_with fail
  refine bodyPost_ret (v := .tuple #[.agg #[.int .i8 7, .int .u64 0, .int .i64 0, .bool false, .int .i64 a0], .int .i64 0]) (by simp [results, Try.results13, go_sem]) rfl ⟨rfl, ?_⟩
  exact ((Below.refl _ _).alloc (Nat.le_refl _) _).alloc (by simp) _

theorem rparse7FTF (a0 a1 a2 : Int) (w : World) (h7 : 64 ≤ a0) (hl : lenB a0 a1 = true) (hr : rigB a2 = false) (c0 : 0 ≤ a0) (c1 : a0 ≤ 18446744073709551615) (d0 : 0 ≤ a1) (d1 : a1 ≤ 18446744073709551615) :
    Calls Try.prog 13 #[.agg #[.int .u64 7, .int .u64 a0, .int .u64 a1, .int .u64 a2]] w fun e w' => e = .returned (.tuple #[.agg #[.int .i8 0, .int .u64 0, .int .i64 0, .bool false, .int .i64 0], .int .i64 210]) ∧ Below w.heap.size w w' := by
  have HL := Lib.hid hl; have HR := Lib.hid hr
  clear hl hr
  go_enter Try.func13, Try.ntmps13
  go_wp2_with fail
  refine (rstretchT a0 a1 _ HL.out c0 c1 d0 d1).mono ?_
  rintro e w' ⟨rfl, rfl⟩
  go_wp2_with fail
  refine (rrights a2 _).mono ?_
  rw [HR.out]
  rintro e w' ⟨rfl, rfl⟩
  go_wp2_with fail
  refine bodyPost_ret (v := .tuple #[.agg #[.int .i8 0, .int .u64 0, .int .i64 0, .bool false, .int .i64 0], .int .i64 210]) (by simp [results, Try.results13, go_sem]) rfl ⟨rfl, ?_⟩
  exact ((Below.refl _ _).alloc (Nat.le_refl _) _).alloc (by simp) _

theorem rparseNTF (nu a0 a1 a2 : Int) (w : World) (hn : nu = 0 ∨ 8 ≤ nu) (hl : lenB a0 a1 = true) (hr : rigB a2 = false) (c0 : 0 ≤ a0) (c1 : a0 ≤ 18446744073709551615) (d0 : 0 ≤ a1) (d1 : a1 ≤ 18446744073709551615) :
    Calls Try.prog 13 #[.agg #[.int .u64 nu, .int .u64 a0, .int .u64 a1, .int .u64 a2]] w fun e w' => e = .returned (.tuple #[.agg #[.int .i8 0, .int .u64 0, .int .i64 0, .bool false, .int .i64 0], .int .i64 210]) ∧ Below w.heap.size w w' := by
  have HL := Lib.hid hl; have HR := Lib.hid hr
  clear hl hr
  have t1 : (nu == 1) = false := by simp; omega
  have t2 : (nu == 2) = false := by simp; omega
  have t3 : (nu == 3) = false := by simp; omega
  have t4 : (nu == 4) = false := by simp; omega
  have t5 : (nu == 5) = false := by simp; omega
  have t6 : (nu == 6) = false := by simp; omega
  have t7 : (nu == 7) = false := by simp; omega
  clear hn
  go_enter Try.func13, Try.ntmps13
  go_wp2_with fail
  refine (rstretchT a0 a1 _ HL.out c0 c1 d0 d1).mono ?_
  rintro e w' ⟨rfl, rfl⟩
  go_wp2_with fail
  refine (rrights a2 _).mono ?_
  rw [HR.out]
  rintro e w' ⟨rfl, rfl⟩
  go_wp2_with fail
  refine bodyPost_ret (v := .tuple #[.agg #[.int .i8 0, .int .u64 0, .int .i64 0, .bool false, .int .i64 0], .int .i64 210]) (by simp [results, Try.results13, go_sem]) rfl ⟨rfl, ?_⟩
  exact ((Below.refl _ _).alloc (Nat.le_refl _) _).alloc (by simp) _

theorem rparse1FT (a0 a1 a2 : Int) (w : World)  (hl : lenB a0 a1 = false) (hr : rigB a2 = true) (c0 : 0 ≤ a0) (c1 : a0 ≤ 18446744073709551615) (d0 : 0 ≤ a1) (d1 : a1 ≤ 18446744073709551615) :
    Calls Try.prog 13 #[.agg #[.int .u64 1, .int .u64 a0, .int .u64 a1, .int .u64 a2]] w fun e w' => e = .returned (.tuple #[.agg #[.int .i8 0, .int .u64 0, .int .i64 0, .bool false, .int .i64 0], .int .i64 210]) ∧ Below w.heap.size w w' := by
  have HL := Lib.hid hl; have HR := Lib.hid hr
  clear hl hr
  go_enter Try.func13, Try.ntmps13
  go_wp2_with fail
  refine (rstretchF a0 a1 _ HL.out c0 c1 d0 d1).mono ?_
  rintro e w' ⟨rfl, rfl⟩
  go_wp2_with fail
  refine (rrights a2 _).mono ?_
  rw [HR.out]
  rintro e w' ⟨rfl, rfl⟩
  go_wp2_with fail
  refine bodyPost_ret (v := .tuple #[.agg #[.int .i8 0, .int .u64 0, .int .i64 0, .bool false, .int .i64 0], .int .i64 210]) (by simp [results, Try.results13, go_sem]) rfl ⟨rfl, ?_⟩
  exact ((Below.refl _ _).alloc (Nat.le_refl _) _).alloc (by simp) _

theorem rparse3FT (a0 a1 a2 : Int) (w : World)  (hl : lenB a0 a1 = false) (hr : rigB a2 = true) (c0 : 0 ≤ a0) (c1 : a0 ≤ 18446744073709551615) (d0 : 0 ≤ a1) (d1 : a1 ≤ 18446744073709551615) :
    Calls Try.prog 13 #[.agg #[.int .u64 3, .int .u64 a0, .int .u64 a1, .int .u64 a2]] w fun e w' => e = .returned (.tuple #[.agg #[.int .i8 0, .int .u64 0, .int .i64 0, .bool false, .int .i64 0], .int .i64 210]) ∧ Below w.heap.size w w' := by
  have HL := Lib.hid hl; have HR := Lib.hid hr
  clear hl hr
  go_enter Try.func13, Try.ntmps13
  go_wp2_with fail
  refine (rstretchF a0 a1 _ HL.out c0 c1 d0 d1).mono ?_
  rintro e w' ⟨rfl, rfl⟩
  go_wp2_with fail
  refine (rrights a2 _).mono ?_
  rw [HR.out]
  rintro e w' ⟨rfl, rfl⟩
  go_wp2_with fail
  refine bodyPost_ret (v := .tuple #[.agg #[.int .i8 0, .int .u64 0, .int .i64 0, .bool false, .int .i64 0], .int .i64 210]) (by simp [results, Try.results13, go_sem]) rfl ⟨rfl, ?_⟩
  exact ((Below.refl _ _).alloc (Nat.le_refl _) _).alloc (by simp) _

theorem rparse2FT (a0 a1 a2 : Int) (w : World)  (hl : lenB a0 a1 = false) (hr : rigB a2 = true) (c0 : 0 ≤ a0) (c1 : a0 ≤ 18446744073709551615) (d0 : 0 ≤ a1) (d1 : a1 ≤ 18446744073709551615) :
    Calls Try.prog 13 #[.agg #[.int .u64 2, .int .u64 a0, .int .u64 a1, .int .u64 a2]] w fun e w' => e = .returned (.tuple #[.agg #[.int .i8 0, .int .u64 0, .int .i64 0, .bool false, .int .i64 0], .int .i64 210]) ∧ Below w.heap.size w w' := by
  have HL := Lib.hid hl; have HR := Lib.hid hr
  clear hl hr
  go_enter Try.func13, Try.ntmps13
  go_wp2_with fail
  refine (rstretchF a0 a1 _ HL.out c0 c1 d0 d1).mono ?_
  rintro e w' ⟨rfl, rfl⟩
  go_wp2_with fail
  refine (rrights a2 _).mono ?_
  rw [HR.out]
  rintro e w' ⟨rfl, rfl⟩
  go_wp2_with fail
  refine bodyPost_ret (v := .tuple #[.agg #[.int .i8 0, .int .u64 0, .int .i64 0, .bool false, .int .i64 0], .int .i64 210]) (by simp [results, Try.results13, go_sem]) rfl ⟨rfl, ?_⟩
  exact ((Below.refl _ _).alloc (Nat.le_refl _) _).alloc (by simp) _

theorem rparse4FT (a0 a1 a2 : Int) (w : World)  (hl : lenB a0 a1 = false) (hr : rigB a2 = true) (c0 : 0 ≤ a0) (c1 : a0 ≤ 18446744073709551615) (d0 : 0 ≤ a1) (d1 : a1 ≤ 18446744073709551615) :
    Calls Try.prog 13 #[.agg #[.int .u64 4, .int .u64 a0, .int .u64 a1, .int .u64 a2]] w fun e w' => e = .returned (.tuple #[.agg #[.int .i8 4, .int .u64 0, .int .i64 0, .bool false, .int .i64 0], .int .i64 0]) ∧ Below w.heap.size w w' := by
  have HL := Lib.hid hl; have HR := Lib.hid hr
  clear hl hr
  go_enter Try.func13, Try.ntmps13
  go_wp2_with fail
  refine (rstretchF a0 a1 _ HL.out c0 c1 d0 d1).mono ?_
  rintro e w' ⟨rfl, rfl⟩
  go_wp2_with fail
  refine (rrights a2 _).mono ?_
  rw [HR.out]
  rintro e w' ⟨rfl, rfl⟩
  go_wp2_with fail
  refine bodyPost_ret (v := .tuple #[.agg #[.int .i8 4, .int .u64 0, .int .i64 0, .bool false, .int .i64 0], .int .i64 0]) (by simp [results, Try.results13, go_sem]) rfl ⟨rfl, ?_⟩
  exact ((Below.refl _ _).alloc (Nat.le_refl _) _).alloc (by simp) _

theorem rparse5FT (a0 a1 a2 : Int) (w : World)  (hl : lenB a0 a1 = false) (hr : rigB a2 = true) (c0 : 0 ≤ a0) (c1 : a0 ≤ 18446744073709551615) (d0 : 0 ≤ a1) (d1 : a1 ≤ 18446744073709551615) :
    Calls Try.prog 13 #[.agg #[.int .u64 5, .int .u64 a0, .int .u64 a1, .int .u64 a2]] w fun e w' => e = .returned (.tuple #[.agg #[.int .i8 5, .int .u64 0, .int .i64 0, .bool false, .int .i64 0], .int .i64 0]) ∧ Below w.heap.size w w' := by
  have HL := Lib.hid hl; have HR := Lib.hid hr
  clear hl hr
  go_enter Try.func13, Try.ntmps13
  go_wp2_with fail
  refine (rstretchF a0 a1 _ HL.out c0 c1 d0 d1).mono ?_
  rintro e w' ⟨rfl, rfl⟩
  go_wp2_with fail
  refine (rrights a2 _).mono ?_
  rw [HR.out]
  rintro e w' ⟨rfl, rfl⟩
  go_wp2_with fail
  refine bodyPost_ret (v := .tuple #[.agg #[.int .i8 5, .int .u64 0, .int .i64 0, .bool false, .int .i64 0], .int .i64 0]) (by simp [results, Try.results13, go_sem]) rfl ⟨rfl, ?_⟩
  exact ((Below.refl _ _).alloc (Nat.le_refl _) _).alloc (by simp) _

theorem rparse6FT (a0 a1 a2 : Int) (w : World)  (hl : lenB a0 a1 = false) (hr : rigB a2 = true) (c0 : 0 ≤ a0) (c1 : a0 ≤ 18446744073709551615) (d0 : 0 ≤ a1) (d1 : a1 ≤ 18446744073709551615) :
    Calls Try.prog 13 #[.agg #[.int .u64 6, .int .u64 a0, .int .u64 a1, .int .u64 a2]] w fun e w' => e = .returned (.tuple #[.agg #[.int .i8 6, .int .u64 0, .int .i64 0, .bool false, .int .i64 0], .int .i64 0]) ∧ Below w.heap.size w w' := by
  have HL := Lib.hid hl; have HR := Lib.hid hr
  clear hl hr
  go_enter Try.func13, Try.ntmps13
  go_wp2_with fail
  refine (rstretchF a0 a1 _ HL.out c0 c1 d0 d1).mono ?_
  rintro e w' ⟨rfl, rfl⟩
  go_wp2_with fail
  refine (rrights a2 _).mono ?_
  rw [HR.out]
  rintro e w' ⟨rfl, rfl⟩
  go_wp2_with fail
  refine bodyPost_ret (v := .tuple #[.agg #[.int .i8 6, .int .u64 0, .int .i64 0, .bool false, .int .i64 0], .int .i64 0]) (by simp [results, Try.results13, go_sem]) rfl ⟨rfl, ?_⟩
  exact ((Below.refl _ _).alloc (Nat.le_refl _) _).alloc (by simp) _

theorem rparse7TFT (a0 a1 a2 : Int) (w : World) (h7 : a0 < 64) (hl : lenB a0 a1 = false) (hr : rigB a2 = true) (c0 : 0 ≤ a0) (c1 : a0 ≤ 18446744073709551615) (d0 : 0 ≤ a1) (d1 : a1 ≤ 18446744073709551615) :
    Calls Try.prog 13 #[.agg #[.int .u64 7, .int .u64 a0, .int .u64 a1, .int .u64 a2]] w fun e w' => e = .returned (.tuple #[.agg #[.int .i8 7, .int .u64 0, .int .i64 0, .bool false, .int .i64 a0], .int .i64 0]) ∧ Below w.heap.size w w' := by
  have HL := Lib.hid hl; have HR := Lib.hid hr
  clear hl hr
  go_enter Try.func13, Try.ntmps13
  go_wp2_with fail
  refine (rstretchF a0 a1 _ HL.out c0 c1 d0 d1).mono ?_
  rintro e w' ⟨rfl, rfl⟩
  go_wp2_with fail
  refine (rrights a2 _).mono ?_
  rw [HR.out]
  rintro e w' ⟨rfl, rfl⟩
  go_wp2_with fail
  refine bodyPost_ret (v := .tuple #[.agg #[.int .i8 7, .int .u64 0, .int .i64 0, .bool false, .int .i64 a0], .int .i64 0]) (by simp [results, Try.results13, go_sem]) rfl ⟨rfl, ?_⟩
  exact ((Below.refl _ _).alloc (Nat.le_refl _) _).alloc (by simp) _

theorem rparse7FFT (a0 a1 a2 : Int) (w : World) (h7 : 64 ≤ a0) (hl : lenB a0 a1 = false) (hr : rigB a2 = true) (c0 : 0 ≤ a0) (c1 : a0 ≤ 18446744073709551615) (d0 : 0 ≤ a1) (d1 : a1 ≤ 18446744073709551615) :
    Calls Try.prog 13 #[.agg #[.int .u64 7, .int .u64 a0, .int .u64 a1, .int .u64 a2]] w fun e w' => e = .returned (.tuple #[.agg #[.int .i8 0, .int .u64 0, .int .i64 0, .bool false, .int .i64 0], .int .i64 210]) ∧ Below w.heap.size w w' := by
  have HL := Lib.hid hl; have HR := Lib.hid hr
  clear hl hr
  go_enter Try.func13, Try.ntmps13
  go_wp2_with fail
  refine (rstretchF a0 a1 _ HL.out c0 c1 d0 d1).mono ?_
  rintro e w' ⟨rfl, rfl⟩
  go_wp2_with fail
  refine (rrights a2 _).mono ?_
  rw [HR.out]
  rintro e w' ⟨rfl, rfl⟩
  go_wp2_with fail
  refine bodyPost_ret (v := .tuple #[.agg #[.int .i8 0, .int .u64 0, .int .i64 0, .bool false, .int .i64 0], .int .i64 210]) (by simp [results, Try.results13, go_sem]) rfl ⟨rfl, ?_⟩
  exact ((Below.refl _ _).alloc (Nat.le_refl _) _).alloc (by simp) _

theorem rparseNFT (nu a0 a1 a2 : Int) (w : World) (hn : nu = 0 ∨ 8 ≤ nu) (hl : lenB a0 a1 = false) (hr : rigB a2 = true) (c0 : 0 ≤ a0) (c1 : a0 ≤ 18446744073709551615) (d0 : 0 ≤ a1) (d1 : a1 ≤ 18446744073709551615) :
    Calls Try.prog 13 #[.agg #[.int .u64 nu, .int .u64 a0, .int .u64 a1, .int .u64 a2]] w fun e w' => e = .returned (.tuple #[.agg #[.int .i8 0, .int .u64 0, .int .i64 0, .bool false, .int .i64 0], .int .i64 210]) ∧ Below w.heap.size w w' := by
  have HL := Lib.hid hl; have HR := Lib.hid hr
  clear hl hr
  have t1 : (nu == 1) = false := by simp; omega
  have t2 : (nu == 2) = false := by simp; omega
  have t3 : (nu == 3) = false := by simp; omega
  have t4 : (nu == 4) = false := by simp; omega
  have t5 : (nu == 5) = false := by simp; omega
  have t6 : (nu == 6) = false := by simp; omega
  have t7 : (nu == 7) = false := by simp; omega
  clear hn
  go_enter Try.func13, Try.ntmps13
  go_wp2_with fail
  refine (rstretchF a0 a1 _ HL.out c0 c1 d0 d1).mono ?_
  rintro e w' ⟨rfl, rfl⟩
  go_wp2_with fail
  refine (rrights a2 _).mono ?_
  rw [HR.out]
  rintro e w' ⟨rfl, rfl⟩
  go_wp2_with fail
  refine bodyPost_ret (v := .tuple #[.agg #[.int .i8 0, .int .u64 0, .int .i64 0, .bool false, .int .i64 0], .int .i64 210]) (by simp [results, Try.results13, go_sem]) rfl ⟨rfl, ?_⟩
  exact ((Below.refl _ _).alloc (Nat.le_refl _) _).alloc (by simp) _

theorem rparse1FF (a0 a1 a2 : Int) (w : World)  (hl : lenB a0 a1 = false) (hr : rigB a2 = false) (c0 : 0 ≤ a0) (c1 : a0 ≤ 18446744073709551615) (d0 : 0 ≤ a1) (d1 : a1 ≤ 18446744073709551615) :
    Calls Try.prog 13 #[.agg #[.int .u64 1, .int .u64 a0, .int .u64 a1, .int .u64 a2]] w fun e w' => e = .returned (.tuple #[.agg #[.int .i8 0, .int .u64 0, .int .i64 0, .bool false, .int .i64 0], .int .i64 210]) ∧ Below w.heap.size w w' := by
  have HL := Lib.hid hl; have HR := Lib.hid hr
  clear hl hr
  go_enter Try.func13, Try.ntmps13
  go_wp2_with fail
  refine (rstretchF a0 a1 _ HL.out c0 c1 d0 d1).mono ?_
  rintro e w' ⟨rfl, rfl⟩
  go_wp2_with fail
  refine (rrights a2 _).mono ?_
  rw [HR.out]
  rintro e w' ⟨rfl, rfl⟩
  go_wp2_with fail
  refine bodyPost_ret (v := .tuple #[.agg #[.int .i8 0, .int .u64 0, .int .i64 0, .bool false, .int .i64 0], .int .i64 210]) (by simp [results, Try.results13, go_sem]) rfl ⟨rfl, ?_⟩
  exact ((Below.refl _ _).alloc (Nat.le_refl _) _).alloc (by simp) _

theorem rparse3FF (a0 a1 a2 : Int) (w : World)  (hl : lenB a0 a1 = false) (hr : rigB a2 = false) (c0 : 0 ≤ a0) (c1 : a0 ≤ 18446744073709551615) (d0 : 0 ≤ a1) (d1 : a1 ≤ 18446744073709551615) :
    Calls Try.prog 13 #[.agg #[.int .u64 3, .int .u64 a0, .int .u64 a1, .int .u64 a2]] w fun e w' => e = .returned (.tuple #[.agg #[.int .i8 0, .int .u64 0, .int .i64 0, .bool false, .int .i64 0], .int .i64 210]) ∧ Below w.heap.size w w' := by
  have HL := Lib.hid hl; have HR := Lib.hid hr
  clear hl hr
  go_enter Try.func13, Try.ntmps13
  go_wp2_with fail
  refine (rstretchF a0 a1 _ HL.out c0 c1 d0 d1).mono ?_
  rintro e w' ⟨rfl, rfl⟩
  go_wp2_with fail
  refine (rrights a2 _).mono ?_
  rw [HR.out]
  rintro e w' ⟨rfl, rfl⟩
  go_wp2_with fail
  refine bodyPost_ret (v := .tuple #[.agg #[.int .i8 0, .int .u64 0, .int .i64 0, .bool false, .int .i64 0], .int .i64 210]) (by simp [results, Try.results13, go_sem]) rfl ⟨rfl, ?_⟩
  exact ((Below.refl _ _).alloc (Nat.le_refl _) _).alloc (by simp) _

theorem rparse2FF (a0 a1 a2 : Int) (w : World)  (hl : lenB a0 a1 = false) (hr : rigB a2 = false) (c0 : 0 ≤ a0) (c1 : a0 ≤ 18446744073709551615) (d0 : 0 ≤ a1) (d1 : a1 ≤ 18446744073709551615) :
    Calls Try.prog 13 #[.agg #[.int .u64 2, .int .u64 a0, .int .u64 a1, .int .u64 a2]] w fun e w' => e = .returned (.tuple #[.agg #[.int .i8 0, .int .u64 0, .int .i64 0, .bool false, .int .i64 0], .int .i64 210]) ∧ Below w.heap.size w w' := by
  have HL := Lib.hid hl; have HR := Lib.hid hr
  clear hl hr
  go_enter Try.func13, Try.ntmps13
  go_wp2_with fail
  refine (rstretchF a0 a1 _ HL.out c0 c1 d0 d1).mono ?_
  rintro e w' ⟨rfl, rfl⟩
  go_wp2_with fail
  refine (rrights a2 _).mono ?_
  rw [HR.out]
  rintro e w' ⟨rfl, rfl⟩
  go_wp2_with fail
  refine bodyPost_ret (v := .tuple #[.agg #[.int .i8 0, .int .u64 0, .int .i64 0, .bool false, .int .i64 0], .int .i64 210]) (by simp [results, Try.results13, go_sem]) rfl ⟨rfl, ?_⟩
  exact ((Below.refl _ _).alloc (Nat.le_refl _) _).alloc (by simp) _

theorem rparse4FF (a0 a1 a2 : Int) (w : World)  (hl : lenB a0 a1 = false) (hr : rigB a2 = false) (c0 : 0 ≤ a0) (c1 : a0 ≤ 18446744073709551615) (d0 : 0 ≤ a1) (d1 : a1 ≤ 18446744073709551615) :
    Calls Try.prog 13 #[.agg #[.int .u64 4, .int .u64 a0, .int .u64 a1, .int .u64 a2]] w fun e w' => e = .returned (.tuple #[.agg #[.int .i8 4, .int .u64 0, .int .i64 0, .bool false, .int .i64 0], .int .i64 0]) ∧ Below w.heap.size w w' := by
  have HL := Lib.hid hl; have HR := Lib.hid hr
  clear hl hr
  go_enter Try.func13, Try.ntmps13
  go_wp2_with fail
  refine (rstretchF a0 a1 _ HL.out c0 c1 d0 d1).mono ?_
  rintro e w' ⟨rfl, rfl⟩
  go_wp2_with fail
  refine (rrights a2 _).mono ?_
  rw [HR.out]
  rintro e w' ⟨rfl, rfl⟩
  go_wp2_with fail
  refine bodyPost_ret (v := .tuple #[.agg #[.int .i8 4, .int .u64 0, .int .i64 0, .bool false, .int .i64 0], .int .i64 0]) (by simp [results, Try.results13, go_sem]) rfl ⟨rfl, ?_⟩
  exact ((Below.refl _ _).alloc (Nat.le_refl _) _).alloc (by simp) _

theorem rparse5FF (a0 a1 a2 : Int) (w : World)  (hl : lenB a0 a1 = false) (hr : rigB a2 = false) (c0 : 0 ≤ a0) (c1 : a0 ≤ 18446744073709551615) (d0 : 0 ≤ a1) (d1 : a1 ≤ 18446744073709551615) :
    Calls Try.prog 13 #[.agg #[.int .u64 5, .int .u64 a0, .int .u64 a1, .int .u64 a2]] w fun e w' => e = .returned (.tuple #[.agg #[.int .i8 5, .int .u64 0, .int .i64 0, .bool false, .int .i64 0], .int .i64 0]) ∧ Below w.heap.size w w' := by
  have HL := Lib.hid hl; have HR := Lib.hid hr
  clear hl hr
  go_enter Try.func13, Try.ntmps13
  go_wp2_with fail
  refine (rstretchF a0 a1 _ HL.out c0 c1 d0 d1).mono ?_
  rintro e w' ⟨rfl, rfl⟩
  go_wp2_with fail
  refine (rrights a2 _).mono ?_
  rw [HR.out]
  rintro e w' ⟨rfl, rfl⟩
  go_wp2_with fail
  refine bodyPost_ret (v := .tuple #[.agg #[.int .i8 5, .int .u64 0, .int .i64 0, .bool false, .int .i64 0], .int .i64 0]) (by simp [results, Try.results13, go_sem]) rfl ⟨rfl, ?_⟩
  exact ((Below.refl _ _).alloc (Nat.le_refl _) _).alloc (by simp) _

theorem rparse6FF (a0 a1 a2 : Int) (w : World)  (hl : lenB a0 a1 = false) (hr : rigB a2 = false) (c0 : 0 ≤ a0) (c1 : a0 ≤ 18446744073709551615) (d0 : 0 ≤ a1) (d1 : a1 ≤ 18446744073709551615) :
    Calls Try.prog 13 #[.agg #[.int .u64 6, .int .u64 a0, .int .u64 a1, .int .u64 a2]] w fun e w' => e = .returned (.tuple #[.agg #[.int .i8 6, .int .u64 0, .int .i64 0, .bool false, .int .i64 0], .int .i64 0]) ∧ Below w.heap.size w w' := by
  have HL := Lib.hid hl; have HR := Lib.hid hr
  clear hl hr
  go_enter Try.func13, Try.ntmps13
  go_wp2_with fail
  refine (rstretchF a0 a1 _ HL.out c0 c1 d0 d1).mono ?_
  rintro e w' ⟨rfl, rfl⟩
  go_wp2_with fail
  refine (rrights a2 _).mono ?_
  rw [HR.out]
  rintro e w' ⟨rfl, rfl⟩
  go_wp2_with fail
  refine bodyPost_ret (v := .tuple #[.agg #[.int .i8 6, .int .u64 0, .int .i64 0, .bool false, .int .i64 0], .int .i64 0]) (by simp [results, Try.results13, go_sem]) rfl ⟨rfl, ?_⟩
  exact ((Below.refl _ _).alloc (Nat.le_refl _) _).alloc (by simp) _

theorem rparse7TFF (a0 a1 a2 : Int) (w : World) (h7 : a0 < 64) (hl : lenB a0 a1 = false) (hr : rigB a2 = false) (c0 : 0 ≤ a0) (c1 : a0 ≤ 18446744073709551615) (d0 : 0 ≤ a1) (d1 : a1 ≤ 18446744073709551615) :
    Calls Try.prog 13 #[.agg #[.int .u64 7, .int .u64 a0, .int .u64 a1, .int .u64 a2]] w fun e w' => e = .returned (.tuple #[.agg #[.int .i8 7, .int .u64 0, .int .i64 0, .bool false, .int .i64 a0], .int .i64 0]) ∧ Below w.heap.size w w' := by
  have HL := Lib.hid hl; have HR := Lib.hid hr
  clear hl hr
  go_enter Try.func13, Try.ntmps13
  go_wp2_with fail
  refine (rstretchF a0 a1 _ HL.out c0 c1 d0 d1).mono ?_
  rintro e w' ⟨rfl, rfl⟩
  go_wp2_with fail
  refine (rrights a2 _).mono ?_
  rw [HR.out]
  rintro e w' ⟨rfl, rfl⟩
  go_wp2_with fail
  refine bodyPost_ret (v := .tuple #[.agg #[.int .i8 7, .int .u64 0, .int .i64 0, .bool false, .int .i64 a0], .int .i64 0]) (by simp [results, Try.results13, go_sem]) rfl ⟨rfl, ?_⟩
  exact ((Below.refl _ _).alloc (Nat.le_refl _) _).alloc (by simp) _

theorem rparse7FFF (a0 a1 a2 : Int) (w : World) (h7 : 64 ≤ a0) (hl : lenB a0 a1 = false) (hr : rigB a2 = false) (c0 : 0 ≤ a0) (c1 : a0 ≤ 18446744073709551615) (d0 : 0 ≤ a1) (d1 : a1 ≤ 18446744073709551615) :
    Calls Try.prog 13 #[.agg #[.int .u64 7, .int .u64 a0, .int .u64 a1, .int .u64 a2]] w fun e w' => e = .returned (.tuple #[.agg #[.int .i8 0, .int .u64 0, .int .i64 0, .bool false, .int .i64 0], .int .i64 210]) ∧ Below w.heap.size w w' := by
  have HL := Lib.hid hl; have HR := Lib.hid hr
  clear hl hr
  go_enter Try.func13, Try.ntmps13
  go_wp2_with fail
  refine (rstretchF a0 a1 _ HL.out c0 c1 d0 d1).mono ?_
  rintro e w' ⟨rfl, rfl⟩
  go_wp2_with fail
  refine (rrights a2 _).mono ?_
  rw [HR.out]
  rintro e w' ⟨rfl, rfl⟩
  go_wp2_with fail
  refine bodyPost_ret (v := .tuple #[.agg #[.int .i8 0, .int .u64 0, .int .i64 0, .bool false, .int .i64 0], .int .i64 210]) (by simp [results, Try.results13, go_sem]) rfl ⟨rfl, ?_⟩
  exact ((Below.refl _ _).alloc (Nat.le_refl _) _).alloc (by simp) _

theorem rparseNFF (nu a0 a1 a2 : Int) (w : World) (hn : nu = 0 ∨ 8 ≤ nu) (hl : lenB a0 a1 = false) (hr : rigB a2 = false) (c0 : 0 ≤ a0) (c1 : a0 ≤ 18446744073709551615) (d0 : 0 ≤ a1) (d1 : a1 ≤ 18446744073709551615) :
    Calls Try.prog 13 #[.agg #[.int .u64 nu, .int .u64 a0, .int .u64 a1, .int .u64 a2]] w fun e w' => e = .returned (.tuple #[.agg #[.int .i8 0, .int .u64 0, .int .i64 0, .bool false, .int .i64 0], .int .i64 210]) ∧ Below w.heap.size w w' := by
  have HL := Lib.hid hl; have HR := Lib.hid hr
  clear hl hr
  have t1 : (nu == 1) = false := by simp; omega
  have t2 : (nu == 2) = false := by simp; omega
  have t3 : (nu == 3) = false := by simp; omega
  have t4 : (nu == 4) = false := by simp; omega
  have t5 : (nu == 5) = false := by simp; omega
  have t6 : (nu == 6) = false := by simp; omega
  have t7 : (nu == 7) = false := by simp; omega
  clear hn
  go_enter Try.func13, Try.ntmps13
  go_wp2_with fail
  refine (rstretchF a0 a1 _ HL.out c0 c1 d0 d1).mono ?_
  rintro e w' ⟨rfl, rfl⟩
  go_wp2_with fail
  refine (rrights a2 _).mono ?_
  rw [HR.out]
  rintro e w' ⟨rfl, rfl⟩
  go_wp2_with fail
  refine bodyPost_ret (v := .tuple #[.agg #[.int .i8 0, .int .u64 0, .int .i64 0, .bool false, .int .i64 0], .int .i64 210]) (by simp [results, Try.results13, go_sem]) rfl ⟨rfl, ?_⟩
  exact ((Below.refl _ _).alloc (Nat.le_refl _) _).alloc (by simp) _

end Go.Proofs.Ytgfnefcgpdkljaa
