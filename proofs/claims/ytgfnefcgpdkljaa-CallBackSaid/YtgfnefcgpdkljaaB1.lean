/- Contracts of package call: the checks, the bare reader, the thread reader. -/
import Derived.Test.YtgfnefcgpdkljaaProg
import Derived.WalkKit
import Derived.ProofKit
import Derived.OpenShut
import Derived.Outline
import Derived.Lib.Hide
import Derived.OneCell
import Derived.WalkSpells
import Derived.WalkLawsBesides
import Derived.Laws.EntriesVeiled
import Derived.Deep.QuietTactic
import Derived.BigQuiet
import Derived.Deep.RegionHeld3
import Derived.Deep.DrawnRows
import Derived.RegionTactic
import Derived.BigRegion
import Derived.LoopTactic
namespace Go.Proofs.Ytgfnefcgpdkljaa
open Go.ChangeShapes Go.WideShapes Go.ChangeAt Go.RowKit
set_option linter.unusedVariables false

def lenB (a n : Int) : Bool := (a % 4096 == 0) && ((n % 4096 == 0) && (decide (0 < n) && (decide (n ≤ 140737488355328) && decide (a ≤ 140737488355328 - n))))
def rigB (x : Int) : Bool := (x == 1) || (x == 3)

theorem len1 (a n : Int) (p q : Nat) (w : World) (hp : w.cell? ⟨p, 0, none⟩ = some (.int .u64 a)) (hq : w.cell? ⟨q, 0, none⟩ = some (.int .u64 n))
    (a0 : 0 ≤ a) (a1 : a ≤ 18446744073709551615) (n0 : 0 ≤ n) (n1 : n ≤ 18446744073709551615) :
    Calls Try.prog 29 #[.pointer (some ⟨p, 0, none⟩), .pointer (some ⟨q, 0, none⟩)] w fun e w' => e = .returned (.bool (lenB a n)) ∧ w = w' := by
  unfold lenB
  cases h1 : (a % 4096 == 0)
  · go_enter Try.func29, Try.ntmps29
    go_wp2
    go_ret
    exact ⟨rfl, rfl⟩
  cases h2 : (n % 4096 == 0)
  · go_enter Try.func29, Try.ntmps29
    go_wp2
    go_ret
    exact ⟨rfl, rfl⟩
  cases h3 : decide (0 < n)
  · go_enter Try.func29, Try.ntmps29
    go_wp2
    go_ret
    exact ⟨rfl, rfl⟩
  cases h4 : decide (n ≤ 140737488355328)
  · go_enter Try.func29, Try.ntmps29
    go_wp2
    go_ret
    exact ⟨rfl, rfl⟩
  have h4' : n ≤ 140737488355328 := by simpa using h4
  go_enter Try.func29, Try.ntmps29
  go_wp2
  go_ret
  exact ⟨rfl, rfl⟩

theorem rig1 (x : Int) (p : Nat) (w : World) (hp : w.cell? ⟨p, 2, none⟩ = some (.int .u64 x)) :
    Calls Try.prog 30 #[.pointer (some ⟨p, 0, none⟩)] w fun e w' => e = .returned (.bool (rigB x)) ∧ w = w' := by
  unfold rigB
  cases h1 : (x == 1)
  · go_enter Try.func30, Try.ntmps30
    go_wp2
    go_ret
    exact ⟨rfl, rfl⟩
  · go_enter Try.func30, Try.ntmps30
    go_wp2
    go_ret
    exact ⟨rfl, rfl⟩

def reqV (k f c : Int) (wr : Bool) (pc : Int) : Value := .agg #[.int .i8 k, .int .u64 f, .int .i64 c, .bool wr, .int .i64 pc]

theorem bare1 (k a0 a1 a2 : Int) (p : Nat) (w : World) (hp : w.cell? ⟨p, 0, none⟩ = some (.int .i8 k)) (hlt : p < w.heap.size) :
    Calls Try.prog 31 #[.agg #[.int .u64 a0, .int .u64 a1, .int .u64 a2], .pointer (some ⟨p, 0, none⟩)] w fun e w' => e = .returned (.tuple #[.agg #[.int .i8 k, .int .u64 0, .int .i64 0, .bool false, .int .i64 0], .bool true]) ∧ Below w.heap.size w w' := by
  go_enter Try.func31, Try.ntmps31
  go_wp2
  refine bodyPost_ret (v := .tuple #[.agg #[.int .i8 k, .int .u64 0, .int .i64 0, .bool false, .int .i64 0], .bool true]) (by simp [results, Try.results31, go_sem]) rfl ⟨rfl, ?_⟩
  exact ((Below.refl _ _).alloc (Nat.le_refl _) _).alloc (by simp) _

theorem bare (k : Int) (w : World) :
    Calls Try.prog 27 #[.int .i8 k] w fun e w' => e = .returned (.func (.func 31) #[] #[.pointer (some ⟨w.heap.size, 0, none⟩)]) ∧ w' = w.alloc (.cells #[.int .i8 k] 26) := by
  go_enter Try.func27, Try.ntmps27
  go_wp2
  go_ret
  exact ⟨rfl, rfl⟩

theorem thread_ok (a0 a1 a2 : Int) (w : World) (h : a0 < 64) (h0 : 0 ≤ a0) :
    Calls Try.prog 28 #[.agg #[.int .u64 a0, .int .u64 a1, .int .u64 a2]] w fun e w' => e = .returned (.tuple #[.agg #[.int .i8 7, .int .u64 0, .int .i64 0, .bool false, .int .i64 a0], .bool true]) ∧ Below w.heap.size w w' := by
  have hd : decide (64 ≤ a0) = false := by simp; omega
  go_enter Try.func28, Try.ntmps28
  go_wp2
  refine bodyPost_ret (v := .tuple #[.agg #[.int .i8 7, .int .u64 0, .int .i64 0, .bool false, .int .i64 a0], .bool true]) (by simp [results, Try.results28, go_sem]) rfl ⟨rfl, ?_⟩
  exact ((Below.refl _ _).alloc (Nat.le_refl _) _).alloc (by simp) _
theorem thread_no (a0 a1 a2 : Int) (w : World) (h : 64 ≤ a0) :
    Calls Try.prog 28 #[.agg #[.int .u64 a0, .int .u64 a1, .int .u64 a2]] w fun e w' => e = .returned (.tuple #[.agg #[.int .i8 0, .int .u64 0, .int .i64 0, .bool false, .int .i64 0], .bool false]) ∧ Below w.heap.size w w' := by
  have hd : decide (64 ≤ a0) = true := by simp; omega
  go_enter Try.func28, Try.ntmps28
  go_wp2
  refine bodyPost_ret (v := .tuple #[.agg #[.int .i8 0, .int .u64 0, .int .i64 0, .bool false, .int .i64 0], .bool false]) (by simp [results, Try.results28, go_sem]) rfl ⟨rfl, ?_⟩
  exact ((Below.refl _ _).alloc (Nat.le_refl _) _).alloc (by simp) _

theorem rights (a0 a1 a2 : Int) (w : World) :
    Calls Try.prog 24 #[.agg #[.int .u64 a0, .int .u64 a1, .int .u64 a2]] w fun e w' => ∃ p, e = .returned (.func (.func 30) #[] #[.pointer (some ⟨p, 0, none⟩)]) ∧ w'.cell? ⟨p, 2, none⟩ = some (.int .u64 a2) ∧ w.heap.size ≤ p ∧ p < w'.heap.size ∧ Below w.heap.size w w' := by
  go_enter Try.func24, Try.ntmps24
  go_wp2
  go_ret
  refine ⟨w.heap.size, rfl, by simp, Nat.le_refl _, by simp, (Below.refl _ _).alloc (Nat.le_refl _) _⟩

theorem islen (a0 a1 a2 : Int) (w : World) :
    Calls Try.prog 23 #[.agg #[.int .u64 a0, .int .u64 a1, .int .u64 a2]] w fun e w' => ∃ p q, e = .returned (.func (.func 29) #[] #[.pointer (some ⟨p, 0, none⟩), .pointer (some ⟨q, 0, none⟩)]) ∧ w'.cell? ⟨p, 0, none⟩ = some (.int .u64 a0) ∧ w'.cell? ⟨q, 0, none⟩ = some (.int .u64 a1) ∧ w.heap.size ≤ p ∧ p < w'.heap.size ∧ w.heap.size ≤ q ∧ q < w'.heap.size ∧ Below w.heap.size w w' := by
  go_enter Try.func23, Try.ntmps23
  go_wp2
  go_region
  · go_wp2
    go_ret
    refine ⟨w.heap.size + 1, w.heap.size + 1 + 1, rfl, by simp [go_sem], by simp [go_sem], by omega, by simp, by omega, by simp, ?_⟩
    exact ((((Below.refl _ _).alloc (Nat.le_refl _) _).alloc (by simp) _).alloc (by simp; omega) _).drew
  · go_wp2
    go_ret
    refine ⟨w.heap.size + 1 + 1, w.heap.size + 1, rfl, by simp [go_sem], by simp [go_sem], by omega, by simp, by omega, by simp, ?_⟩
    exact ((((Below.refl _ _).alloc (Nat.le_refl _) _).alloc (by simp) _).alloc (by simp; omega) _).drew
end Go.Proofs.Ytgfnefcgpdkljaa
