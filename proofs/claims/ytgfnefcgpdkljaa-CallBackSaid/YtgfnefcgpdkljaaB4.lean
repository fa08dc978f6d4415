/- Contracts of package call: readers, Parse. -/
import Derived.Test.YtgfnefcgpdkljaaB3
namespace Go.Proofs.Ytgfnefcgpdkljaa
open Go.ChangeShapes Go.WideShapes Go.ChangeAt Go.RowKit
set_option linter.unusedVariables false

theorem readers (w : World) :
    Calls Try.prog 16 #[] w fun e w' => ∃ p q r, e = .returned (.agg #[.nilFunc, .func (.func 21) #[] #[], .func (.func 25) #[] #[], .func (.func 26) #[] #[], .func (.func 31) #[] #[.pointer (some ⟨p, 0, none⟩)], .func (.func 31) #[] #[.pointer (some ⟨q, 0, none⟩)], .func (.func 31) #[] #[.pointer (some ⟨r, 0, none⟩)], .func (.func 28) #[] #[]])
      ∧ w'.cell? ⟨p, 0, none⟩ = some (.int .i8 4) ∧ w'.cell? ⟨q, 0, none⟩ = some (.int .i8 5) ∧ w'.cell? ⟨r, 0, none⟩ = some (.int .i8 6) ∧ p < w'.heap.size ∧ q < w'.heap.size ∧ r < w'.heap.size ∧ Below w.heap.size w w' := by
  go_enter Try.func16, Try.ntmps16
  go_wp2_with fail
  refine (bare 4 _).mono ?_
  rintro e w1 ⟨rfl, rfl⟩
  go_wp2_with fail
  refine (bare 5 _).mono ?_
  rintro e w1 ⟨rfl, rfl⟩
  go_wp2_with fail
  refine (bare 6 _).mono ?_
  rintro e w1 ⟨rfl, rfl⟩
  go_wp2_with fail
  refine bodyPost_ret (v := .agg #[.nilFunc, .func (.func 21) #[] #[], .func (.func 25) #[] #[], .func (.func 26) #[] #[], .func (.func 31) #[] #[.pointer (some ⟨w.heap.size + 1, 0, none⟩)], .func (.func 31) #[] #[.pointer (some ⟨w.heap.size + 1 + 1, 0, none⟩)], .func (.func 31) #[] #[.pointer (some ⟨w.heap.size + 1 + 1 + 1, 0, none⟩)], .func (.func 28) #[] #[]]) (by simp [results, Try.results16, go_sem]) rfl ⟨w.heap.size + 1, w.heap.size + 1 + 1, w.heap.size + 1 + 1 + 1, rfl, by simp [go_sem], by simp [go_sem], by simp [go_sem], by simp, by simp, by simp, ?_⟩
  exact ((((Below.refl _ _).alloc (Nat.le_refl _) _).alloc (by simp) _).alloc (by simp; omega) _).alloc (by simp; omega) _
/-- Parse's frame: its box, its result; all below is as it was. -/
structure Pf (w W : World) (nu a0 a1 a2 : Int) : Prop where
  bx : W.heap[w.heap.size]? = some (.cells #[.int .u64 nu, .int .u64 a0, .int .u64 a1, .int .u64 a2] 25 (0, 0))
  rs : W.heap[w.heap.size + 1]? = some (.cells #[.int .i8 0, .int .u64 0, .int .i64 0, .bool false, .int .i64 0] 28 (0, 0))
  be : Below w.heap.size w W
theorem eqnf (f : Fn) (a b : Array Value) (w : World) : (binOp .eql 44 (.func f a b) .nilFunc).run Try.prog w = .ok (.bool false) w := by kernel_rfl
theorem eqnn (w : World) : (binOp .eql 44 .nilFunc .nilFunc).run Try.prog w = .ok (.bool true) w := by kernel_rfl
theorem Pf.c {w W : World} {nu a0 a1 a2 : Int} (f : Pf w W nu a0 a1 a2) : (W.cell? ⟨w.heap.size, 0, none⟩ = some (.int .u64 nu) ∧ W.cell? ⟨w.heap.size, 1, none⟩ = some (.int .u64 a0) ∧ W.cell? ⟨w.heap.size, 2, none⟩ = some (.int .u64 a1) ∧ W.cell? ⟨w.heap.size, 3, none⟩ = some (.int .u64 a2)) ∧ w.heap.size + 1 < W.heap.size := by
  have := f.bx
  exact ⟨by simp [World.cell?, this], lt_of_block f.rs⟩
theorem Pf.r {w W : World} {nu a0 a1 a2 : Int} (f : Pf w W nu a0 a1 a2) : (W.cell? ⟨w.heap.size + 1, 0, none⟩ = some (.int .i8 0) ∧ W.cell? ⟨w.heap.size + 1, 1, none⟩ = some (.int .u64 0) ∧ W.cell? ⟨w.heap.size + 1, 2, none⟩ = some (.int .i64 0) ∧ W.cell? ⟨w.heap.size + 1, 3, none⟩ = some (.bool false) ∧ W.cell? ⟨w.heap.size + 1, 4, none⟩ = some (.int .i64 0)) ∧
    (W.frozen? ⟨w.heap.size + 1, 0, none⟩ = false ∧ W.frozen? ⟨w.heap.size + 1, 1, none⟩ = false ∧ W.frozen? ⟨w.heap.size + 1, 2, none⟩ = false ∧ W.frozen? ⟨w.heap.size + 1, 3, none⟩ = false ∧ W.frozen? ⟨w.heap.size + 1, 4, none⟩ = false) := by
  have := f.rs
  simp [World.cell?, World.frozen?, this]
theorem Pf.mono {w W W1 : World} {nu a0 a1 a2 : Int} (f : Pf w W nu a0 a1 a2) (hb : Below W.heap.size W W1) : Pf w W1 nu a0 a1 a2 :=
  ⟨(hb.block _ (lt_of_block f.bx)).trans f.bx, (hb.block _ (lt_of_block f.rs)).trans f.rs, f.be.trans (hb.mono f.be.size)⟩
theorem Pf.start (w : World) (nu a0 a1 a2 : Int) : Pf w ((w.alloc (.cells #[.int .u64 nu, .int .u64 a0, .int .u64 a1, .int .u64 a2] 25)).alloc (.cells #[.int .i8 0, .int .u64 0, .int .i64 0, .bool false, .int .i64 0] 28)) nu a0 a1 a2 :=
  ⟨(Below.heap_alloc _ _ _ (by simp)).trans (heap_alloc_new _ _), by
    have := heap_alloc_new (w.alloc (.cells #[.int .u64 nu, .int .u64 a0, .int .u64 a1, .int .u64 a2] 25)) (.cells #[.int .i8 0, .int .u64 0, .int .i64 0, .bool false, .int .i64 0] 28)
    rw [World.size_alloc] at this
    exact this, ((Below.refl _ _).alloc (Nat.le_refl _) _).alloc (by simp) _⟩

theorem parse_big (nu a0 a1 a2 : Int) (w : World) (hnu : 8 ≤ nu) (c0 : 0 ≤ a0) (c1 : a0 ≤ 18446744073709551615) (d0 : 0 ≤ a1) (d1 : a1 ≤ 18446744073709551615) :
    Calls Try.prog 7 #[.agg #[.int .u64 nu, .int .u64 a0, .int .u64 a1, .int .u64 a2]] w fun e w' => e = .returned (.tuple #[.agg #[.int .i8 0, .int .u64 0, .int .i64 0, .bool false, .int .i64 0], .int .i64 210]) ∧ Below w.heap.size w w' := by
  have F0 := Lib.hid (Pf.start w nu a0 a1 a2)
  go_enter Try.func7, Try.ntmps7
  go_wp2_with fail
  refine (readers _).mono ?_
  rintro e w1 ⟨p, q, r, rfl, hp, hq, hr, lp, lq, lr, hb⟩
  have F1 := Lib.hid (F0.out.mono hb)
  clear hb
  obtain ⟨⟨k0, k1, k2, k3⟩, klt⟩ := F1.out.c
  obtain ⟨⟨rc0, rc1, rc2, rc3, rc4⟩, rf0, rf1, rf2, rf3, rf4⟩ := F1.out.r
  have lb : w.heap.size ≤ w.heap.size + 1 := by omega
  have klt0 : w.heap.size < w1.heap.size := by omega
  have enf := eqnf
  have enn := eqnn
  go_wp2_with fail
  refine bodyPost_ret (v := .tuple #[.agg #[.int .i8 0, .int .u64 0, .int .i64 0, .bool false, .int .i64 0], .int .i64 210]) (by simp [results, Try.results7, go_sem, rc0, rc1, rc2, rc3, rc4, klt]) rfl ⟨rfl, ?_⟩
  exact (((((F1.out.be.setCell lb _).setCell lb _).setCell lb _).setCell lb _).setCell lb _).alloc (by have := F1.out.be.size; simp; omega) _

theorem parse0 (a0 a1 a2 : Int) (w : World)  (c0 : 0 ≤ a0) (c1 : a0 ≤ 18446744073709551615) (d0 : 0 ≤ a1) (d1 : a1 ≤ 18446744073709551615) :
    Calls Try.prog 7 #[.agg #[.int .u64 0, .int .u64 a0, .int .u64 a1, .int .u64 a2]] w fun e w' => e = .returned (.tuple #[.agg #[.int .i8 0, .int .u64 0, .int .i64 0, .bool false, .int .i64 0], .int .i64 210]) ∧ Below w.heap.size w w' := by
  have F0 := Lib.hid (Pf.start w 0 a0 a1 a2)
  go_enter Try.func7, Try.ntmps7
  go_wp2_with fail
  refine (readers _).mono ?_
  rintro e w1 ⟨p, q, r, rfl, hp, hq, hr, lp, lq, lr, hb⟩
  have F1 := Lib.hid (F0.out.mono hb)
  clear hb
  obtain ⟨⟨k0, k1, k2, k3⟩, klt⟩ := F1.out.c
  obtain ⟨⟨rc0, rc1, rc2, rc3, rc4⟩, rf0, rf1, rf2, rf3, rf4⟩ := F1.out.r
  have lb : w.heap.size ≤ w.heap.size + 1 := by omega
  have klt0 : w.heap.size < w1.heap.size := by omega
  have enf := eqnf
  have enn := eqnn
  go_wp2_with fail
  refine bodyPost_ret (v := .tuple #[.agg #[.int .i8 0, .int .u64 0, .int .i64 0, .bool false, .int .i64 0], .int .i64 210]) (by simp [results, Try.results7, go_sem, rc0, rc1, rc2, rc3, rc4, klt]) rfl ⟨rfl, ?_⟩
  exact (((((F1.out.be.setCell lb _).setCell lb _).setCell lb _).setCell lb _).setCell lb _).alloc (by have := F1.out.be.size; simp; omega) _

theorem parse1T (a0 a1 a2 : Int) (w : World) (hbool : (lenB a0 a1 && rigB a2) = true) (c0 : 0 ≤ a0) (c1 : a0 ≤ 18446744073709551615) (d0 : 0 ≤ a1) (d1 : a1 ≤ 18446744073709551615) :
    Calls Try.prog 7 #[.agg #[.int .u64 1, .int .u64 a0, .int .u64 a1, .int .u64 a2]] w fun e w' => e = .returned (.tuple #[.agg #[.int .i8 1, .int .u64 (a0 / 4096), .int .i64 (min (a1 / 4096) 1048576), .bool (a2 == 3), .int .i64 0], .int .i64 0]) ∧ Below w.heap.size w w' := by
  have F0 := Lib.hid (Pf.start w 1 a0 a1 a2)
  have HBB := Lib.hid hbool
  clear hbool
  go_enter Try.func7, Try.ntmps7
  go_wp2_with fail
  refine (readers _).mono ?_
  rintro e w1 ⟨p, q, r, rfl, hp, hq, hr, lp, lq, lr, hb⟩
  have F1 := Lib.hid (F0.out.mono hb)
  clear hb
  obtain ⟨⟨k0, k1, k2, k3⟩, klt⟩ := F1.out.c
  obtain ⟨⟨rc0, rc1, rc2, rc3, rc4⟩, rf0, rf1, rf2, rf3, rf4⟩ := F1.out.r
  have lb : w.heap.size ≤ w.heap.size + 1 := by omega
  have klt0 : w.heap.size < w1.heap.size := by omega
  have enf := eqnf
  have enn := eqnn
  go_wp2_with fail
  refine (reader1T a0 a1 a2 _ HBB.out c0 c1 d0 d1).mono ?_
  rintro e w2 ⟨rfl, hb⟩
  have F2 := Lib.hid ((F1.out.mono ((Below.refl _ _).alloc (Nat.le_refl _) _)).mono hb)
  clear hb k0 k1 k2 k3 rc0 rc1 rc2 rc3 rc4 rf0 rf1 rf2 rf3 rf4 klt hp hq hr klt0
  obtain ⟨⟨k0, k1, k2, k3⟩, klt⟩ := F2.out.c
  obtain ⟨⟨rc0, rc1, rc2, rc3, rc4⟩, rf0, rf1, rf2, rf3, rf4⟩ := F2.out.r
  have klt0 : w.heap.size < w2.heap.size := by omega
  go_wp2_with fail
  refine bodyPost_ret (v := .tuple #[.agg #[.int .i8 1, .int .u64 (a0 / 4096), .int .i64 (min (a1 / 4096) 1048576), .bool (a2 == 3), .int .i64 0], .int .i64 0]) (by simp [results, Try.results7, go_sem, rc0, rc1, rc2, rc3, rc4, klt]) rfl ⟨rfl, ?_⟩
  exact (((((F2.out.be.setCell lb _).setCell lb _).setCell lb _).setCell lb _).setCell lb _).alloc (by have := F2.out.be.size; simp; omega) _

theorem parse1F (a0 a1 a2 : Int) (w : World) (hbool : (lenB a0 a1 && rigB a2) = false) (c0 : 0 ≤ a0) (c1 : a0 ≤ 18446744073709551615) (d0 : 0 ≤ a1) (d1 : a1 ≤ 18446744073709551615) :
    Calls Try.prog 7 #[.agg #[.int .u64 1, .int .u64 a0, .int .u64 a1, .int .u64 a2]] w fun e w' => e = .returned (.tuple #[.agg #[.int .i8 0, .int .u64 0, .int .i64 0, .bool false, .int .i64 0], .int .i64 210]) ∧ Below w.heap.size w w' := by
  have F0 := Lib.hid (Pf.start w 1 a0 a1 a2)
  have HBB := Lib.hid hbool
  clear hbool
  go_enter Try.func7, Try.ntmps7
  go_wp2_with fail
  refine (readers _).mono ?_
  rintro e w1 ⟨p, q, r, rfl, hp, hq, hr, lp, lq, lr, hb⟩
  have F1 := Lib.hid (F0.out.mono hb)
  clear hb
  obtain ⟨⟨k0, k1, k2, k3⟩, klt⟩ := F1.out.c
  obtain ⟨⟨rc0, rc1, rc2, rc3, rc4⟩, rf0, rf1, rf2, rf3, rf4⟩ := F1.out.r
  have lb : w.heap.size ≤ w.heap.size + 1 := by omega
  have klt0 : w.heap.size < w1.heap.size := by omega
  have enf := eqnf
  have enn := eqnn
  go_wp2_with fail
  refine (reader1F a0 a1 a2 _ HBB.out c0 c1 d0 d1).mono ?_
  rintro e w2 ⟨rfl, hb⟩
  have F2 := Lib.hid ((F1.out.mono ((Below.refl _ _).alloc (Nat.le_refl _) _)).mono hb)
  clear hb k0 k1 k2 k3 rc0 rc1 rc2 rc3 rc4 rf0 rf1 rf2 rf3 rf4 klt hp hq hr klt0
  obtain ⟨⟨k0, k1, k2, k3⟩, klt⟩ := F2.out.c
  obtain ⟨⟨rc0, rc1, rc2, rc3, rc4⟩, rf0, rf1, rf2, rf3, rf4⟩ := F2.out.r
  have klt0 : w.heap.size < w2.heap.size := by omega
  go_wp2_with fail
  refine bodyPost_ret (v := .tuple #[.agg #[.int .i8 0, .int .u64 0, .int .i64 0, .bool false, .int .i64 0], .int .i64 210]) (by simp [results, Try.results7, go_sem, rc0, rc1, rc2, rc3, rc4, klt]) rfl ⟨rfl, ?_⟩
  exact (((((F2.out.be.setCell lb _).setCell lb _).setCell lb _).setCell lb _).setCell lb _).alloc (by have := F2.out.be.size; simp; omega) _

theorem parse2T (a0 a1 a2 : Int) (w : World) (hbool : lenB a0 a1 = true) (c0 : 0 ≤ a0) (c1 : a0 ≤ 18446744073709551615) (d0 : 0 ≤ a1) (d1 : a1 ≤ 18446744073709551615) :
    Calls Try.prog 7 #[.agg #[.int .u64 2, .int .u64 a0, .int .u64 a1, .int .u64 a2]] w fun e w' => e = .returned (.tuple #[.agg #[.int .i8 2, .int .u64 (a0 / 4096), .int .i64 (min (a1 / 4096) 1048576), .bool false, .int .i64 0], .int .i64 0]) ∧ Below w.heap.size w w' := by
  have F0 := Lib.hid (Pf.start w 2 a0 a1 a2)
  have HBB := Lib.hid hbool
  clear hbool
  go_enter Try.func7, Try.ntmps7
  go_wp2_with fail
  refine (readers _).mono ?_
  rintro e w1 ⟨p, q, r, rfl, hp, hq, hr, lp, lq, lr, hb⟩
  have F1 := Lib.hid (F0.out.mono hb)
  clear hb
  obtain ⟨⟨k0, k1, k2, k3⟩, klt⟩ := F1.out.c
  obtain ⟨⟨rc0, rc1, rc2, rc3, rc4⟩, rf0, rf1, rf2, rf3, rf4⟩ := F1.out.r
  have lb : w.heap.size ≤ w.heap.size + 1 := by omega
  have klt0 : w.heap.size < w1.heap.size := by omega
  have enf := eqnf
  have enn := eqnn
  go_wp2_with fail
  refine (reader2T a0 a1 a2 _ HBB.out c0 c1 d0 d1).mono ?_
  rintro e w2 ⟨rfl, hb⟩
  have F2 := Lib.hid ((F1.out.mono ((Below.refl _ _).alloc (Nat.le_refl _) _)).mono hb)
  clear hb k0 k1 k2 k3 rc0 rc1 rc2 rc3 rc4 rf0 rf1 rf2 rf3 rf4 klt hp hq hr klt0
  obtain ⟨⟨k0, k1, k2, k3⟩, klt⟩ := F2.out.c
  obtain ⟨⟨rc0, rc1, rc2, rc3, rc4⟩, rf0, rf1, rf2, rf3, rf4⟩ := F2.out.r
  have klt0 : w.heap.size < w2.heap.size := by omega
  go_wp2_with fail
  refine bodyPost_ret (v := .tuple #[.agg #[.int .i8 2, .int .u64 (a0 / 4096), .int .i64 (min (a1 / 4096) 1048576), .bool false, .int .i64 0], .int .i64 0]) (by simp [results, Try.results7, go_sem, rc0, rc1, rc2, rc3, rc4, klt]) rfl ⟨rfl, ?_⟩
  exact (((((F2.out.be.setCell lb _).setCell lb _).setCell lb _).setCell lb _).setCell lb _).alloc (by have := F2.out.be.size; simp; omega) _

theorem parse2F (a0 a1 a2 : Int) (w : World) (hbool : lenB a0 a1 = false) (c0 : 0 ≤ a0) (c1 : a0 ≤ 18446744073709551615) (d0 : 0 ≤ a1) (d1 : a1 ≤ 18446744073709551615) :
    Calls Try.prog 7 #[.agg #[.int .u64 2, .int .u64 a0, .int .u64 a1, .int .u64 a2]] w fun e w' => e = .returned (.tuple #[.agg #[.int .i8 0, .int .u64 0, .int .i64 0, .bool false, .int .i64 0], .int .i64 210]) ∧ Below w.heap.size w w' := by
  have F0 := Lib.hid (Pf.start w 2 a0 a1 a2)
  have HBB := Lib.hid hbool
  clear hbool
  go_enter Try.func7, Try.ntmps7
  go_wp2_with fail
  refine (readers _).mono ?_
  rintro e w1 ⟨p, q, r, rfl, hp, hq, hr, lp, lq, lr, hb⟩
  have F1 := Lib.hid (F0.out.mono hb)
  clear hb
  obtain ⟨⟨k0, k1, k2, k3⟩, klt⟩ := F1.out.c
  obtain ⟨⟨rc0, rc1, rc2, rc3, rc4⟩, rf0, rf1, rf2, rf3, rf4⟩ := F1.out.r
  have lb : w.heap.size ≤ w.heap.size + 1 := by omega
  have klt0 : w.heap.size < w1.heap.size := by omega
  have enf := eqnf
  have enn := eqnn
  go_wp2_with fail
  refine (reader2F a0 a1 a2 _ HBB.out c0 c1 d0 d1).mono ?_
  rintro e w2 ⟨rfl, hb⟩
  have F2 := Lib.hid ((F1.out.mono ((Below.refl _ _).alloc (Nat.le_refl _) _)).mono hb)
  clear hb k0 k1 k2 k3 rc0 rc1 rc2 rc3 rc4 rf0 rf1 rf2 rf3 rf4 klt hp hq hr klt0
  obtain ⟨⟨k0, k1, k2, k3⟩, klt⟩ := F2.out.c
  obtain ⟨⟨rc0, rc1, rc2, rc3, rc4⟩, rf0, rf1, rf2, rf3, rf4⟩ := F2.out.r
  have klt0 : w.heap.size < w2.heap.size := by omega
  go_wp2_with fail
  refine bodyPost_ret (v := .tuple #[.agg #[.int .i8 0, .int .u64 0, .int .i64 0, .bool false, .int .i64 0], .int .i64 210]) (by simp [results, Try.results7, go_sem, rc0, rc1, rc2, rc3, rc4, klt]) rfl ⟨rfl, ?_⟩
  exact (((((F2.out.be.setCell lb _).setCell lb _).setCell lb _).setCell lb _).setCell lb _).alloc (by have := F2.out.be.size; simp; omega) _

theorem parse3T (a0 a1 a2 : Int) (w : World) (hbool : (lenB a0 a1 && rigB a2) = true) (c0 : 0 ≤ a0) (c1 : a0 ≤ 18446744073709551615) (d0 : 0 ≤ a1) (d1 : a1 ≤ 18446744073709551615) :
    Calls Try.prog 7 #[.agg #[.int .u64 3, .int .u64 a0, .int .u64 a1, .int .u64 a2]] w fun e w' => e = .returned (.tuple #[.agg #[.int .i8 3, .int .u64 (a0 / 4096), .int .i64 (min (a1 / 4096) 1048576), .bool (a2 == 3), .int .i64 0], .int .i64 0]) ∧ Below w.heap.size w w' := by
  have F0 := Lib.hid (Pf.start w 3 a0 a1 a2)
  have HBB := Lib.hid hbool
  clear hbool
  go_enter Try.func7, Try.ntmps7
  go_wp2_with fail
  refine (readers _).mono ?_
  rintro e w1 ⟨p, q, r, rfl, hp, hq, hr, lp, lq, lr, hb⟩
  have F1 := Lib.hid (F0.out.mono hb)
  clear hb
  obtain ⟨⟨k0, k1, k2, k3⟩, klt⟩ := F1.out.c
  obtain ⟨⟨rc0, rc1, rc2, rc3, rc4⟩, rf0, rf1, rf2, rf3, rf4⟩ := F1.out.r
  have lb : w.heap.size ≤ w.heap.size + 1 := by omega
  have klt0 : w.heap.size < w1.heap.size := by omega
  have enf := eqnf
  have enn := eqnn
  go_wp2_with fail
  refine (reader3T a0 a1 a2 _ HBB.out c0 c1 d0 d1).mono ?_
  rintro e w2 ⟨rfl, hb⟩
  have F2 := Lib.hid ((F1.out.mono ((Below.refl _ _).alloc (Nat.le_refl _) _)).mono hb)
  clear hb k0 k1 k2 k3 rc0 rc1 rc2 rc3 rc4 rf0 rf1 rf2 rf3 rf4 klt hp hq hr klt0
  obtain ⟨⟨k0, k1, k2, k3⟩, klt⟩ := F2.out.c
  obtain ⟨⟨rc0, rc1, rc2, rc3, rc4⟩, rf0, rf1, rf2, rf3, rf4⟩ := F2.out.r
  have klt0 : w.heap.size < w2.heap.size := by omega
  go_wp2_with fail
  refine bodyPost_ret (v := .tuple #[.agg #[.int .i8 3, .int .u64 (a0 / 4096), .int .i64 (min (a1 / 4096) 1048576), .bool (a2 == 3), .int .i64 0], .int .i64 0]) (by simp [results, Try.results7, go_sem, rc0, rc1, rc2, rc3, rc4, klt]) rfl ⟨rfl, ?_⟩
  exact (((((F2.out.be.setCell lb _).setCell lb _).setCell lb _).setCell lb _).setCell lb _).alloc (by have := F2.out.be.size; simp; omega) _

theorem parse3F (a0 a1 a2 : Int) (w : World) (hbool : (lenB a0 a1 && rigB a2) = false) (c0 : 0 ≤ a0) (c1 : a0 ≤ 18446744073709551615) (d0 : 0 ≤ a1) (d1 : a1 ≤ 18446744073709551615) :
    Calls Try.prog 7 #[.agg #[.int .u64 3, .int .u64 a0, .int .u64 a1, .int .u64 a2]] w fun e w' => e = .returned (.tuple #[.agg #[.int .i8 0, .int .u64 0, .int .i64 0, .bool false, .int .i64 0], .int .i64 210]) ∧ Below w.heap.size w w' := by
  have F0 := Lib.hid (Pf.start w 3 a0 a1 a2)
  have HBB := Lib.hid hbool
  clear hbool
  go_enter Try.func7, Try.ntmps7
  go_wp2_with fail
  refine (readers _).mono ?_
  rintro e w1 ⟨p, q, r, rfl, hp, hq, hr, lp, lq, lr, hb⟩
  have F1 := Lib.hid (F0.out.mono hb)
  clear hb
  obtain ⟨⟨k0, k1, k2, k3⟩, klt⟩ := F1.out.c
  obtain ⟨⟨rc0, rc1, rc2, rc3, rc4⟩, rf0, rf1, rf2, rf3, rf4⟩ := F1.out.r
  have lb : w.heap.size ≤ w.heap.size + 1 := by omega
  have klt0 : w.heap.size < w1.heap.size := by omega
  have enf := eqnf
  have enn := eqnn
  go_wp2_with fail
  refine (reader3F a0 a1 a2 _ HBB.out c0 c1 d0 d1).mono ?_
  rintro e w2 ⟨rfl, hb⟩
  have F2 := Lib.hid ((F1.out.mono ((Below.refl _ _).alloc (Nat.le_refl _) _)).mono hb)
  clear hb k0 k1 k2 k3 rc0 rc1 rc2 rc3 rc4 rf0 rf1 rf2 rf3 rf4 klt hp hq hr klt0
  obtain ⟨⟨k0, k1, k2, k3⟩, klt⟩ := F2.out.c
  obtain ⟨⟨rc0, rc1, rc2, rc3, rc4⟩, rf0, rf1, rf2, rf3, rf4⟩ := F2.out.r
  have klt0 : w.heap.size < w2.heap.size := by omega
  go_wp2_with fail
  refine bodyPost_ret (v := .tuple #[.agg #[.int .i8 0, .int .u64 0, .int .i64 0, .bool false, .int .i64 0], .int .i64 210]) (by simp [results, Try.results7, go_sem, rc0, rc1, rc2, rc3, rc4, klt]) rfl ⟨rfl, ?_⟩
  exact (((((F2.out.be.setCell lb _).setCell lb _).setCell lb _).setCell lb _).setCell lb _).alloc (by have := F2.out.be.size; simp; omega) _

theorem parse4 (a0 a1 a2 : Int) (w : World)  (c0 : 0 ≤ a0) (c1 : a0 ≤ 18446744073709551615) (d0 : 0 ≤ a1) (d1 : a1 ≤ 18446744073709551615) :
    Calls Try.prog 7 #[.agg #[.int .u64 4, .int .u64 a0, .int .u64 a1, .int .u64 a2]] w fun e w' => e = .returned (.tuple #[.agg #[.int .i8 4, .int .u64 0, .int .i64 0, .bool false, .int .i64 0], .int .i64 0]) ∧ Below w.heap.size w w' := by
  have F0 := Lib.hid (Pf.start w 4 a0 a1 a2)
  go_enter Try.func7, Try.ntmps7
  go_wp2_with fail
  refine (readers _).mono ?_
  rintro e w1 ⟨p, q, r, rfl, hp, hq, hr, lp, lq, lr, hb⟩
  have F1 := Lib.hid (F0.out.mono hb)
  clear hb
  obtain ⟨⟨k0, k1, k2, k3⟩, klt⟩ := F1.out.c
  obtain ⟨⟨rc0, rc1, rc2, rc3, rc4⟩, rf0, rf1, rf2, rf3, rf4⟩ := F1.out.r
  have lb : w.heap.size ≤ w.heap.size + 1 := by omega
  have klt0 : w.heap.size < w1.heap.size := by omega
  have enf := eqnf
  have enn := eqnn
  go_wp2_with fail
  refine (bare1 4 a0 a1 a2 p _ (by simpa [go_sem, lp] using hp) (by simp; omega)).mono ?_
  rintro e w2 ⟨rfl, hb⟩
  have F2 := Lib.hid ((F1.out.mono ((Below.refl _ _).alloc (Nat.le_refl _) _)).mono hb)
  clear hb k0 k1 k2 k3 rc0 rc1 rc2 rc3 rc4 rf0 rf1 rf2 rf3 rf4 klt hp hq hr klt0
  obtain ⟨⟨k0, k1, k2, k3⟩, klt⟩ := F2.out.c
  obtain ⟨⟨rc0, rc1, rc2, rc3, rc4⟩, rf0, rf1, rf2, rf3, rf4⟩ := F2.out.r
  have klt0 : w.heap.size < w2.heap.size := by omega
  go_wp2_with fail
  refine bodyPost_ret (v := .tuple #[.agg #[.int .i8 4, .int .u64 0, .int .i64 0, .bool false, .int .i64 0], .int .i64 0]) (by simp [results, Try.results7, go_sem, rc0, rc1, rc2, rc3, rc4, klt]) rfl ⟨rfl, ?_⟩
  exact (((((F2.out.be.setCell lb _).setCell lb _).setCell lb _).setCell lb _).setCell lb _).alloc (by have := F2.out.be.size; simp; omega) _

theorem parse5 (a0 a1 a2 : Int) (w : World)  (c0 : 0 ≤ a0) (c1 : a0 ≤ 18446744073709551615) (d0 : 0 ≤ a1) (d1 : a1 ≤ 18446744073709551615) :
    Calls Try.prog 7 #[.agg #[.int .u64 5, .int .u64 a0, .int .u64 a1, .int .u64 a2]] w fun e w' => e = .returned (.tuple #[.agg #[.int .i8 5, .int .u64 0, .int .i64 0, .bool false, .int .i64 0], .int .i64 0]) ∧ Below w.heap.size w w' := by
  have F0 := Lib.hid (Pf.start w 5 a0 a1 a2)
  go_enter Try.func7, Try.ntmps7
  go_wp2_with fail
  refine (readers _).mono ?_
  rintro e w1 ⟨p, q, r, rfl, hp, hq, hr, lp, lq, lr, hb⟩
  have F1 := Lib.hid (F0.out.mono hb)
  clear hb
  obtain ⟨⟨k0, k1, k2, k3⟩, klt⟩ := F1.out.c
  obtain ⟨⟨rc0, rc1, rc2, rc3, rc4⟩, rf0, rf1, rf2, rf3, rf4⟩ := F1.out.r
  have lb : w.heap.size ≤ w.heap.size + 1 := by omega
  have klt0 : w.heap.size < w1.heap.size := by omega
  have enf := eqnf
  have enn := eqnn
  go_wp2_with fail
  refine (bare1 5 a0 a1 a2 q _ (by simpa [go_sem, lq] using hq) (by simp; omega)).mono ?_
  rintro e w2 ⟨rfl, hb⟩
  have F2 := Lib.hid ((F1.out.mono ((Below.refl _ _).alloc (Nat.le_refl _) _)).mono hb)
  clear hb k0 k1 k2 k3 rc0 rc1 rc2 rc3 rc4 rf0 rf1 rf2 rf3 rf4 klt hp hq hr klt0
  obtain ⟨⟨k0, k1, k2, k3⟩, klt⟩ := F2.out.c
  obtain ⟨⟨rc0, rc1, rc2, rc3, rc4⟩, rf0, rf1, rf2, rf3, rf4⟩ := F2.out.r
  have klt0 : w.heap.size < w2.heap.size := by omega
  go_wp2_with fail
  refine bodyPost_ret (v := .tuple #[.agg #[.int .i8 5, .int .u64 0, .int .i64 0, .bool false, .int .i64 0], .int .i64 0]) (by simp [results, Try.results7, go_sem, rc0, rc1, rc2, rc3, rc4, klt]) rfl ⟨rfl, ?_⟩
  exact (((((F2.out.be.setCell lb _).setCell lb _).setCell lb _).setCell lb _).setCell lb _).alloc (by have := F2.out.be.size; simp; omega) _

theorem parse6 (a0 a1 a2 : Int) (w : World)  (c0 : 0 ≤ a0) (c1 : a0 ≤ 18446744073709551615) (d0 : 0 ≤ a1) (d1 : a1 ≤ 18446744073709551615) :
    Calls Try.prog 7 #[.agg #[.int .u64 6, .int .u64 a0, .int .u64 a1, .int .u64 a2]] w fun e w' => e = .returned (.tuple #[.agg #[.int .i8 6, .int .u64 0, .int .i64 0, .bool false, .int .i64 0], .int .i64 0]) ∧ Below w.heap.size w w' := by
  have F0 := Lib.hid (Pf.start w 6 a0 a1 a2)
  go_enter Try.func7, Try.ntmps7
  go_wp2_with fail
  refine (readers _).mono ?_
  rintro e w1 ⟨p, q, r, rfl, hp, hq, hr, lp, lq, lr, hb⟩
  have F1 := Lib.hid (F0.out.mono hb)
  clear hb
  obtain ⟨⟨k0, k1, k2, k3⟩, klt⟩ := F1.out.c
  obtain ⟨⟨rc0, rc1, rc2, rc3, rc4⟩, rf0, rf1, rf2, rf3, rf4⟩ := F1.out.r
  have lb : w.heap.size ≤ w.heap.size + 1 := by omega
  have klt0 : w.heap.size < w1.heap.size := by omega
  have enf := eqnf
  have enn := eqnn
  go_wp2_with fail
  refine (bare1 6 a0 a1 a2 r _ (by simpa [go_sem, lr] using hr) (by simp; omega)).mono ?_
  rintro e w2 ⟨rfl, hb⟩
  have F2 := Lib.hid ((F1.out.mono ((Below.refl _ _).alloc (Nat.le_refl _) _)).mono hb)
  clear hb k0 k1 k2 k3 rc0 rc1 rc2 rc3 rc4 rf0 rf1 rf2 rf3 rf4 klt hp hq hr klt0
  obtain ⟨⟨k0, k1, k2, k3⟩, klt⟩ := F2.out.c
  obtain ⟨⟨rc0, rc1, rc2, rc3, rc4⟩, rf0, rf1, rf2, rf3, rf4⟩ := F2.out.r
  have klt0 : w.heap.size < w2.heap.size := by omega
  go_wp2_with fail
  refine bodyPost_ret (v := .tuple #[.agg #[.int .i8 6, .int .u64 0, .int .i64 0, .bool false, .int .i64 0], .int .i64 0]) (by simp [results, Try.results7, go_sem, rc0, rc1, rc2, rc3, rc4, klt]) rfl ⟨rfl, ?_⟩
  exact (((((F2.out.be.setCell lb _).setCell lb _).setCell lb _).setCell lb _).setCell lb _).alloc (by have := F2.out.be.size; simp; omega) _

theorem parse7T (a0 a1 a2 : Int) (w : World) (hbool : a0 < 64) (c0 : 0 ≤ a0) (c1 : a0 ≤ 18446744073709551615) (d0 : 0 ≤ a1) (d1 : a1 ≤ 18446744073709551615) :
    Calls Try.prog 7 #[.agg #[.int .u64 7, .int .u64 a0, .int .u64 a1, .int .u64 a2]] w fun e w' => e = .returned (.tuple #[.agg #[.int .i8 7, .int .u64 0, .int .i64 0, .bool false, .int .i64 a0], .int .i64 0]) ∧ Below w.heap.size w w' := by
  have F0 := Lib.hid (Pf.start w 7 a0 a1 a2)
  go_enter Try.func7, Try.ntmps7
  go_wp2_with fail
  refine (readers _).mono ?_
  rintro e w1 ⟨p, q, r, rfl, hp, hq, hr, lp, lq, lr, hb⟩
  have F1 := Lib.hid (F0.out.mono hb)
  clear hb
  obtain ⟨⟨k0, k1, k2, k3⟩, klt⟩ := F1.out.c
  obtain ⟨⟨rc0, rc1, rc2, rc3, rc4⟩, rf0, rf1, rf2, rf3, rf4⟩ := F1.out.r
  have lb : w.heap.size ≤ w.heap.size + 1 := by omega
  have klt0 : w.heap.size < w1.heap.size := by omega
  have enf := eqnf
  have enn := eqnn
  go_wp2_with fail
  refine (thread_ok a0 a1 a2 _ hbool c0).mono ?_
  rintro e w2 ⟨rfl, hb⟩
  have F2 := Lib.hid ((F1.out.mono ((Below.refl _ _).alloc (Nat.le_refl _) _)).mono hb)
  clear hb k0 k1 k2 k3 rc0 rc1 rc2 rc3 rc4 rf0 rf1 rf2 rf3 rf4 klt hp hq hr klt0
  obtain ⟨⟨k0, k1, k2, k3⟩, klt⟩ := F2.out.c
  obtain ⟨⟨rc0, rc1, rc2, rc3, rc4⟩, rf0, rf1, rf2, rf3, rf4⟩ := F2.out.r
  have klt0 : w.heap.size < w2.heap.size := by omega
  go_wp2_with fail
  refine bodyPost_ret (v := .tuple #[.agg #[.int .i8 7, .int .u64 0, .int .i64 0, .bool false, .int .i64 a0], .int .i64 0]) (by simp [results, Try.results7, go_sem, rc0, rc1, rc2, rc3, rc4, klt]) rfl ⟨rfl, ?_⟩
  exact (((((F2.out.be.setCell lb _).setCell lb _).setCell lb _).setCell lb _).setCell lb _).alloc (by have := F2.out.be.size; simp; omega) _

theorem parse7F (a0 a1 a2 : Int) (w : World) (hbool : 64 ≤ a0) (c0 : 0 ≤ a0) (c1 : a0 ≤ 18446744073709551615) (d0 : 0 ≤ a1) (d1 : a1 ≤ 18446744073709551615) :
    Calls Try.prog 7 #[.agg #[.int .u64 7, .int .u64 a0, .int .u64 a1, .int .u64 a2]] w fun e w' => e = .returned (.tuple #[.agg #[.int .i8 0, .int .u64 0, .int .i64 0, .bool false, .int .i64 0], .int .i64 210]) ∧ Below w.heap.size w w' := by
  have F0 := Lib.hid (Pf.start w 7 a0 a1 a2)
  go_enter Try.func7, Try.ntmps7
  go_wp2_with fail
  refine (readers _).mono ?_
  rintro e w1 ⟨p, q, r, rfl, hp, hq, hr, lp, lq, lr, hb⟩
  have F1 := Lib.hid (F0.out.mono hb)
  clear hb
  obtain ⟨⟨k0, k1, k2, k3⟩, klt⟩ := F1.out.c
  obtain ⟨⟨rc0, rc1, rc2, rc3, rc4⟩, rf0, rf1, rf2, rf3, rf4⟩ := F1.out.r
  have lb : w.heap.size ≤ w.heap.size + 1 := by omega
  have klt0 : w.heap.size < w1.heap.size := by omega
  have enf := eqnf
  have enn := eqnn
  go_wp2_with fail
  refine (thread_no a0 a1 a2 _ hbool).mono ?_
  rintro e w2 ⟨rfl, hb⟩
  have F2 := Lib.hid ((F1.out.mono ((Below.refl _ _).alloc (Nat.le_refl _) _)).mono hb)
  clear hb k0 k1 k2 k3 rc0 rc1 rc2 rc3 rc4 rf0 rf1 rf2 rf3 rf4 klt hp hq hr klt0
  obtain ⟨⟨k0, k1, k2, k3⟩, klt⟩ := F2.out.c
  obtain ⟨⟨rc0, rc1, rc2, rc3, rc4⟩, rf0, rf1, rf2, rf3, rf4⟩ := F2.out.r
  have klt0 : w.heap.size < w2.heap.size := by omega
  go_wp2_with fail
  refine bodyPost_ret (v := .tuple #[.agg #[.int .i8 0, .int .u64 0, .int .i64 0, .bool false, .int .i64 0], .int .i64 210]) (by simp [results, Try.results7, go_sem, rc0, rc1, rc2, rc3, rc4, klt]) rfl ⟨rfl, ?_⟩
  exact (((((F2.out.be.setCell lb _).setCell lb _).setCell lb _).setCell lb _).setCell lb _).alloc (by have := F2.out.be.size; simp; omega) _

end Go.Proofs.Ytgfnefcgpdkljaa
