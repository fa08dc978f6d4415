/- Layer 21: Read, and the document's Result and Read. -/
import Derived.Test.YtgfnefcgpdkljaaB5
namespace Go.Proofs.Ytgfnefcgpdkljaa
open Go.ChangeShapes Go.WideShapes Go.ChangeAt Go.RowKit
set_option linter.unusedVariables false

theorem rresult_any (n e : Int) (w : World) (h1 : n ≤ 9223372036854775807) :
    Calls Try.prog 12 #[.int .i64 n, .int .i64 e] w fun en w' => en = .returned (.int .u64 (resW n e)) ∧ w = w' := by
  unfold resW
  by_cases e0 : e = 0
  · subst e0
    by_cases hn : n < 0
    · rw [if_pos rfl, show max n 0 = 0 by omega]
      go_enter Try.func12, Try.ntmps12
      go_wp2_with fail
      go_ret
      exact ⟨rfl, rfl⟩
    · rw [if_pos rfl, show max n 0 = n by omega]
      go_enter Try.func12, Try.ntmps12
      go_wp2_with fail
      go_ret
      exact ⟨rfl, rfl⟩
  rw [if_neg e0]
  have t0 : (e == 0) = false := by simpa using e0
  by_cases e1 : e = 211
  · subst e1
    rw [if_pos rfl]
    go_enter Try.func12, Try.ntmps12
    go_wp2_with fail
    go_ret
    exact ⟨rfl, rfl⟩
  rw [if_neg e1]
  have t1 : (e == 211) = false := by simpa using e1
  by_cases e2 : e = 20
  · subst e2
    rw [if_pos rfl]
    go_enter Try.func12, Try.ntmps12
    go_wp2_with fail
    go_ret
    exact ⟨rfl, rfl⟩
  rw [if_neg e2]
  have t2 : (e == 20) = false := by simpa using e2
  clear e0 e1 e2
  go_enter Try.func12, Try.ntmps12
  go_wp2_with fail
  go_ret
  exact ⟨rfl, rfl⟩

/-- What Read answers. -/
def rdN (v : Int) : Int := if v ≤ 2147483648 then v else 0
def rdE (v : Int) : Int := if v ≤ 2147483648 then 0 else if v = 18446744073709551604 then 211 else if v = 18446744073709551605 then 20 else 210

theorem read_any (v : Int) (w : World) (v0 : 0 ≤ v) (v1 : v ≤ 18446744073709551615) :
    Calls Try.prog 9 #[.int .u64 v] w fun en w' => en = .returned (.tuple #[.int .i64 (rdN v), .int .i64 (rdE v)]) ∧ w = w' := by
  unfold rdN rdE
  by_cases h0 : v ≤ 2147483648
  · rw [if_pos h0, if_pos h0]
    go_enter Try.func9, Try.ntmps9
    go_wp2_with fail
    go_ret2
    exact ⟨rfl, rfl⟩
  rw [if_neg h0, if_neg h0]
  by_cases h1 : v = 18446744073709551604
  · subst h1
    rw [if_pos rfl]
    go_enter Try.func9, Try.ntmps9
    go_wp2_with fail
    refine (word12 _).mono ?_
    rintro en w' ⟨rfl, rfl⟩
    go_wp2_with fail
    go_ret2
    exact ⟨rfl, rfl⟩
  rw [if_neg h1]
  have t1 : (v == 18446744073709551604) = false := by simpa using h1
  by_cases h2 : v = 18446744073709551605
  · subst h2
    rw [if_pos rfl]
    clear h1
    go_enter Try.func9, Try.ntmps9
    go_wp2_with fail
    refine (word12 _).mono ?_
    rintro en w' ⟨rfl, rfl⟩
    go_wp2_with fail
    refine (word11 _).mono ?_
    rintro en w' ⟨rfl, rfl⟩
    go_wp2_with fail
    go_ret2
    exact ⟨rfl, rfl⟩
  rw [if_neg h2]
  have t2 : (v == 18446744073709551605) = false := by simpa using h2
  clear h1 h2
  go_enter Try.func9, Try.ntmps9
  go_wp2_with fail
  refine (word12 _).mono ?_
  rintro en w' ⟨rfl, rfl⟩
  go_wp2_with fail
  refine (word11 _).mono ?_
  rintro en w' ⟨rfl, rfl⟩
  go_wp2_with fail
  go_ret2
  exact ⟨rfl, rfl⟩

theorem rr211 (w : World) : Calls Try.prog 12 #[.int .i64 0, .int .i64 211] w fun en w' => en = .returned (.int .u64 18446744073709551604) ∧ w = w' := rresult_any 0 211 w (by omega)
theorem rr20 (w : World) : Calls Try.prog 12 #[.int .i64 0, .int .i64 20] w fun en w' => en = .returned (.int .u64 18446744073709551605) ∧ w = w' := rresult_any 0 20 w (by omega)

theorem rread_any (v : Int) (w : World) (v0 : 0 ≤ v) (v1 : v ≤ 18446744073709551615) :
    Calls Try.prog 10 #[.int .u64 v] w fun en w' => en = .returned (.tuple #[.int .i64 (rdN v), .int .i64 (rdE v)]) ∧ w = w' := by
  unfold rdN rdE
  by_cases h0 : v ≤ 2147483648
  · rw [if_pos h0, if_pos h0]
    go_enter Try.func10, Try.ntmps10
    go_wp2_with fail
    go_ret2
    exact ⟨rfl, rfl⟩
  rw [if_neg h0, if_neg h0]
  by_cases h1 : v = 18446744073709551604
  · subst h1
    rw [if_pos rfl]
    go_enter Try.func10, Try.ntmps10
    go_wp2_with fail
    refine (rr211 _).mono ?_
    rintro en w' ⟨rfl, rfl⟩
    go_wp2_with fail
    go_ret2
    exact ⟨rfl, rfl⟩
  rw [if_neg h1]
  have t1 : (v == 18446744073709551604) = false := by simpa using h1
  by_cases h2 : v = 18446744073709551605
  · subst h2
    rw [if_pos rfl]
    clear h1
    go_enter Try.func10, Try.ntmps10
    go_wp2_with fail
    refine (rr211 _).mono ?_
    rintro en w' ⟨rfl, rfl⟩
    go_wp2_with fail
    refine (rr20 _).mono ?_
    rintro en w' ⟨rfl, rfl⟩
    go_wp2_with fail
    go_ret2
    exact ⟨rfl, rfl⟩
  rw [if_neg h2]
  have t2 : (v == 18446744073709551605) = false := by simpa using h2
  clear h1 h2
  go_enter Try.func10, Try.ntmps10
  go_wp2_with fail
  refine (rr211 _).mono ?_
  rintro en w' ⟨rfl, rfl⟩
  go_wp2_with fail
  refine (rr20 _).mono ?_
  rintro en w' ⟨rfl, rfl⟩
  go_wp2_with fail
  go_ret2
  exact ⟨rfl, rfl⟩
end Go.Proofs.Ytgfnefcgpdkljaa
