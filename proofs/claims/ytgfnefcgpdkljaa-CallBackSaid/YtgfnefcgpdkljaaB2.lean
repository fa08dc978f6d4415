/- Contracts of package call: stretch. -/
import Derived.Test.YtgfnefcgpdkljaaB1
namespace Go.Proofs.Ytgfnefcgpdkljaa
open Go.ChangeShapes Go.WideShapes Go.ChangeAt Go.RowKit
set_option linter.unusedVariables false

def strV (b : Bool) (k a0 a1 a2 : Int) : Value := match b with
  | true => .tuple #[.agg #[.int .i8 k, .int .u64 (a0 / 4096), .int .i64 (min (a1 / 4096) 1048576), .bool (a2 == 3), .int .i64 0], .bool true]
  | false => .tuple #[.agg #[.int .i8 0, .int .u64 0, .int .i64 0, .bool false, .int .i64 0], .bool false]

theorem stretch2 (k a0 a1 a2 la ln lr : Int) (bs p q r : Nat) (w : World)
    (hs0 : w.cell? ⟨bs, 0, none⟩ = some (.func (.func 29) #[] #[.pointer (some ⟨p, 0, none⟩), .pointer (some ⟨q, 0, none⟩)]))
    (hs1 : w.cell? ⟨bs, 1, none⟩ = some (.func (.func 30) #[] #[.pointer (some ⟨r, 0, none⟩)]))
    (hp : w.cell? ⟨p, 0, none⟩ = some (.int .u64 la)) (hq : w.cell? ⟨q, 0, none⟩ = some (.int .u64 ln)) (hr : w.cell? ⟨r, 2, none⟩ = some (.int .u64 lr))
    (lbs : bs < w.heap.size) (lp : p < w.heap.size) (lq : q < w.heap.size) (lrr : r < w.heap.size)
    (b0 : 0 ≤ la) (b1 : la ≤ 18446744073709551615) (n0 : 0 ≤ ln) (n1 : ln ≤ 18446744073709551615)
    (c0 : 0 ≤ a0) (c1 : a0 ≤ 18446744073709551615) (d0 : 0 ≤ a1) (d1 : a1 ≤ 18446744073709551615) :
    Calls Try.prog 22 #[.int .i8 k, .agg #[.int .u64 a0, .int .u64 a1, .int .u64 a2], .slice (some ⟨bs, 0, none⟩) 2 2] w fun e w' => e = .returned (strV (lenB la ln && rigB lr) k a0 a1 a2) ∧ Below w.heap.size w w' := by
  go_enter Try.func22, Try.ntmps22
  go_wp2_with fail
  go_loop [12] (fun i => ∃ j : Nat, j ≤ 2 ∧ i = .int .i64 j ∧ (1 ≤ j → lenB la ln = true) ∧ (2 ≤ j → rigB lr = true)) (fun i => 2 - (intOf i).toNat)
  case atStart => exact ⟨0, by omega, rfl, by omega, by omega⟩
  case round =>
    obtain ⟨j, hj, rfl, h1, h2⟩ := hrel
    have H1 := Lib.hid h1; have H2 := Lib.hid h2
    clear h1 h2
    have : j = 0 ∨ j = 1 ∨ j = 2 := by omega
    rcases this with rfl | rfl | rfl
    · go_wp2_with fail
      refine (len1 la ln p q _ (by simpa [go_sem, lp] using hp) (by simpa [go_sem, lq] using hq) b0 b1 n0 n1).mono ?_
      rintro e w' ⟨rfl, rfl⟩
      cases hl : lenB la ln
      · have HL := Lib.hid hl
        clear hl
        go_wp2_with fail
        refine bodyPost_ret (v := strV false k a0 a1 a2) (by simp [results, Try.results22, go_sem, strV]) rfl ⟨by rw [HL.out]; rfl, ?_⟩
        exact ((Below.refl _ _).alloc (Nat.le_refl _) _).alloc (by simp) _
      · have HL := Lib.hid hl
        clear hl
        go_wp2_with fail
        go_round
        case rel => exact ⟨1, by omega, rfl, fun _ => HL.out, by omega⟩
        case measure => simp [intOf]
    · go_wp2_with fail
      refine (rig1 lr r _ (by simpa [go_sem, lrr] using hr)).mono ?_
      rintro e w' ⟨rfl, rfl⟩
      cases hl : rigB lr
      · have HL := Lib.hid hl
        clear hl
        go_wp2_with fail
        refine bodyPost_ret (v := strV false k a0 a1 a2) (by simp [results, Try.results22, go_sem, strV]) rfl ⟨by rw [HL.out, Bool.and_false], ?_⟩
        exact ((Below.refl _ _).alloc (Nat.le_refl _) _).alloc (by simp) _
      · have HL := Lib.hid hl
        clear hl
        go_wp2_with fail
        go_round
        case rel => exact ⟨2, by omega, rfl, fun _ => H1.out (by omega), fun _ => HL.out⟩
        case measure => simp [intOf]
    · go_wp2_with fail
      all_goals
        refine bodyPost_ret (v := strV true k a0 a1 a2) (by simp [results, Try.results22, go_sem, strV]; omega) rfl ⟨by rw [H1.out (by omega), H2.out (by omega)]; rfl, ?_⟩
        exact ((Below.refl _ _).alloc (Nat.le_refl _) _).alloc (by simp) _

theorem stretch1 (k a0 a1 a2 la ln : Int) (bs p q : Nat) (w : World)
    (hs0 : w.cell? ⟨bs, 0, none⟩ = some (.func (.func 29) #[] #[.pointer (some ⟨p, 0, none⟩), .pointer (some ⟨q, 0, none⟩)]))
    (hp : w.cell? ⟨p, 0, none⟩ = some (.int .u64 la)) (hq : w.cell? ⟨q, 0, none⟩ = some (.int .u64 ln))
    (lbs : bs < w.heap.size) (lp : p < w.heap.size) (lq : q < w.heap.size)
    (b0 : 0 ≤ la) (b1 : la ≤ 18446744073709551615) (n0 : 0 ≤ ln) (n1 : ln ≤ 18446744073709551615)
    (c0 : 0 ≤ a0) (c1 : a0 ≤ 18446744073709551615) (d0 : 0 ≤ a1) (d1 : a1 ≤ 18446744073709551615) :
    Calls Try.prog 22 #[.int .i8 k, .agg #[.int .u64 a0, .int .u64 a1, .int .u64 a2], .slice (some ⟨bs, 0, none⟩) 1 1] w fun e w' => e = .returned (strV (lenB la ln) k a0 a1 a2) ∧ Below w.heap.size w w' := by
  go_enter Try.func22, Try.ntmps22
  go_wp2_with fail
  go_loop [12] (fun i => ∃ j : Nat, j ≤ 1 ∧ i = .int .i64 j ∧ (1 ≤ j → lenB la ln = true)) (fun i => 2 - (intOf i).toNat)
  case atStart => exact ⟨0, by omega, rfl, by omega⟩
  case round =>
    obtain ⟨j, hj, rfl, h1⟩ := hrel
    have H1 := Lib.hid h1
    clear h1
    have : j = 0 ∨ j = 1 := by omega
    rcases this with rfl | rfl
    · go_wp2_with fail
      refine (len1 la ln p q _ (by simpa [go_sem, lp] using hp) (by simpa [go_sem, lq] using hq) b0 b1 n0 n1).mono ?_
      rintro e w' ⟨rfl, rfl⟩
      cases hl : lenB la ln
      · have HL := Lib.hid hl
        clear hl
        go_wp2_with fail
        refine bodyPost_ret (v := strV false k a0 a1 a2) (by simp [results, Try.results22, go_sem, strV]) rfl ⟨by rw [HL.out], ?_⟩
        exact ((Below.refl _ _).alloc (Nat.le_refl _) _).alloc (by simp) _
      · have HL := Lib.hid hl
        clear hl
        go_wp2_with fail
        go_round
        case rel => exact ⟨1, by omega, rfl, fun _ => HL.out⟩
        case measure => simp [intOf]
    · go_wp2_with fail
      all_goals
        refine bodyPost_ret (v := strV true k a0 a1 a2) (by simp [results, Try.results22, go_sem, strV]; omega) rfl ⟨by rw [H1.out (by omega)], ?_⟩
        exact ((Below.refl _ _).alloc (Nat.le_refl _) _).alloc (by simp) _
end Go.Proofs.Ytgfnefcgpdkljaa
