/- Layer 21: Make. -/
import Derived.Test.YtgfnefcgpdkljaaB8
namespace Go.Proofs.Ytgfnefcgpdkljaa
open Go.ChangeShapes Go.WideShapes Go.ChangeAt Go.RowKit
set_option linter.unusedVariables false
set_option linter.unusedSimpArgs false

/-- What Parse answers is that request. -/
structure Hits (nu a0 a1 a2 k f c : Int) (wr : Bool) (pc : Int) : Prop where
  e : pE nu a0 a1 a2 = 0
  k : pK nu a0 a1 a2 = k
  f : pF nu a0 a1 a2 = f
  c : pC nu a0 a1 a2 = c
  w : pW nu a0 a1 a2 = wr
  p : pP nu a0 a1 a2 = pc

theorem make1wT (f c pc : Int) (w : World)  (hh : Hits 1 (IntKind.u64.wrap (f * 4096)) (IntKind.u64.wrap (IntKind.u64.wrap c * 4096)) 3 1 f c true pc) (f0 : 0 ≤ f) (f1 : f ≤ 18446744073709551615) :
    Calls Try.prog 14 #[.agg #[.int .i8 1, .int .u64 f, .int .i64 c, .bool true, .int .i64 pc]] w fun e w' => e = .returned (.tuple #[.agg #[.int .u64 1, .int .u64 (IntKind.u64.wrap (f * 4096)), .int .u64 (IntKind.u64.wrap (IntKind.u64.wrap c * 4096)), .int .u64 3], .int .i64 0]) ∧ Below w.heap.size w w' := by
  have F0 := Lib.hid (Mf.start w 1 f c true pc 1 (IntKind.u64.wrap (f * 4096)) (IntKind.u64.wrap (IntKind.u64.wrap c * 4096)) 3).drew
  have HH := Lib.hid hh
  clear hh
  go_enter Try.func14, Try.ntmps14
  go_wp2_with fail
  refine (number_any 1 _).mono ?_
  rw [show mN 1 = 1 by decide]
  rintro e w' ⟨rfl, rfl⟩
  go_wp2_with fail
  go_region
  go_wp2_with fail
  refine (parse_any 1 _ _ 3 _ (by omega) (u64_bd _).1 (u64_bd _).2 (u64_bd _).1 (u64_bd _).2).mono ?_
  rw [HH.out.e, HH.out.k, HH.out.f, HH.out.c, HH.out.w, HH.out.p]
  rintro e w1 ⟨rfl, hb⟩
  have F1 := Lib.hid (F0.out.mono hb)
  clear hb
  obtain ⟨⟨b0, b1, b2, b3, b4⟩, ⟨r0, r1, r2, r3⟩, ⟨s0, s1, s2, s3⟩, ⟨q0, q1, q2, q3⟩, l0, l1, l2⟩ := F1.out.all
  have lb : w.heap.size ≤ w.heap.size + 1 := by omega
  go_wp2_with fail
  refine bodyPost_ret (v := .tuple #[.agg #[.int .u64 1, .int .u64 (IntKind.u64.wrap (f * 4096)), .int .u64 (IntKind.u64.wrap (IntKind.u64.wrap c * 4096)), .int .u64 3], .int .i64 0]) ?_ rfl ⟨rfl, ?_⟩
  · simp [results, Try.results14, go_sem, r0, r1, r2, r3, l0, l1, l2]
  · exact ((((F1.out.be.setCell lb _).setCell lb _).setCell lb _).setCell lb _).alloc (by have := F1.out.be.size; simp; omega) _

theorem make1rT (f c pc : Int) (w : World)  (hh : Hits 1 (IntKind.u64.wrap (f * 4096)) (IntKind.u64.wrap (IntKind.u64.wrap c * 4096)) 1 1 f c false pc) (f0 : 0 ≤ f) (f1 : f ≤ 18446744073709551615) :
    Calls Try.prog 14 #[.agg #[.int .i8 1, .int .u64 f, .int .i64 c, .bool false, .int .i64 pc]] w fun e w' => e = .returned (.tuple #[.agg #[.int .u64 1, .int .u64 (IntKind.u64.wrap (f * 4096)), .int .u64 (IntKind.u64.wrap (IntKind.u64.wrap c * 4096)), .int .u64 1], .int .i64 0]) ∧ Below w.heap.size w w' := by
  have F0 := Lib.hid (Mf.start w 1 f c false pc 1 (IntKind.u64.wrap (f * 4096)) (IntKind.u64.wrap (IntKind.u64.wrap c * 4096)) 1).drew
  have HH := Lib.hid hh
  clear hh
  go_enter Try.func14, Try.ntmps14
  go_wp2_with fail
  refine (number_any 1 _).mono ?_
  rw [show mN 1 = 1 by decide]
  rintro e w' ⟨rfl, rfl⟩
  go_wp2_with fail
  go_region
  go_wp2_with fail
  refine (parse_any 1 _ _ 1 _ (by omega) (u64_bd _).1 (u64_bd _).2 (u64_bd _).1 (u64_bd _).2).mono ?_
  rw [HH.out.e, HH.out.k, HH.out.f, HH.out.c, HH.out.w, HH.out.p]
  rintro e w1 ⟨rfl, hb⟩
  have F1 := Lib.hid (F0.out.mono hb)
  clear hb
  obtain ⟨⟨b0, b1, b2, b3, b4⟩, ⟨r0, r1, r2, r3⟩, ⟨s0, s1, s2, s3⟩, ⟨q0, q1, q2, q3⟩, l0, l1, l2⟩ := F1.out.all
  have lb : w.heap.size ≤ w.heap.size + 1 := by omega
  go_wp2_with fail
  refine bodyPost_ret (v := .tuple #[.agg #[.int .u64 1, .int .u64 (IntKind.u64.wrap (f * 4096)), .int .u64 (IntKind.u64.wrap (IntKind.u64.wrap c * 4096)), .int .u64 1], .int .i64 0]) ?_ rfl ⟨rfl, ?_⟩
  · simp [results, Try.results14, go_sem, r0, r1, r2, r3, l0, l1, l2]
  · exact ((((F1.out.be.setCell lb _).setCell lb _).setCell lb _).setCell lb _).alloc (by have := F1.out.be.size; simp; omega) _

theorem make3wT (f c pc : Int) (w : World)  (hh : Hits 3 (IntKind.u64.wrap (f * 4096)) (IntKind.u64.wrap (IntKind.u64.wrap c * 4096)) 3 3 f c true pc) (f0 : 0 ≤ f) (f1 : f ≤ 18446744073709551615) :
    Calls Try.prog 14 #[.agg #[.int .i8 3, .int .u64 f, .int .i64 c, .bool true, .int .i64 pc]] w fun e w' => e = .returned (.tuple #[.agg #[.int .u64 3, .int .u64 (IntKind.u64.wrap (f * 4096)), .int .u64 (IntKind.u64.wrap (IntKind.u64.wrap c * 4096)), .int .u64 3], .int .i64 0]) ∧ Below w.heap.size w w' := by
  have F0 := Lib.hid (Mf.start w 3 f c true pc 3 (IntKind.u64.wrap (f * 4096)) (IntKind.u64.wrap (IntKind.u64.wrap c * 4096)) 3).drew
  have HH := Lib.hid hh
  clear hh
  go_enter Try.func14, Try.ntmps14
  go_wp2_with fail
  refine (number_any 3 _).mono ?_
  rw [show mN 3 = 3 by decide]
  rintro e w' ⟨rfl, rfl⟩
  go_wp2_with fail
  go_region
  go_wp2_with fail
  refine (parse_any 3 _ _ 3 _ (by omega) (u64_bd _).1 (u64_bd _).2 (u64_bd _).1 (u64_bd _).2).mono ?_
  rw [HH.out.e, HH.out.k, HH.out.f, HH.out.c, HH.out.w, HH.out.p]
  rintro e w1 ⟨rfl, hb⟩
  have F1 := Lib.hid (F0.out.mono hb)
  clear hb
  obtain ⟨⟨b0, b1, b2, b3, b4⟩, ⟨r0, r1, r2, r3⟩, ⟨s0, s1, s2, s3⟩, ⟨q0, q1, q2, q3⟩, l0, l1, l2⟩ := F1.out.all
  have lb : w.heap.size ≤ w.heap.size + 1 := by omega
  go_wp2_with fail
  refine bodyPost_ret (v := .tuple #[.agg #[.int .u64 3, .int .u64 (IntKind.u64.wrap (f * 4096)), .int .u64 (IntKind.u64.wrap (IntKind.u64.wrap c * 4096)), .int .u64 3], .int .i64 0]) ?_ rfl ⟨rfl, ?_⟩
  · simp [results, Try.results14, go_sem, r0, r1, r2, r3, l0, l1, l2]
  · exact ((((F1.out.be.setCell lb _).setCell lb _).setCell lb _).setCell lb _).alloc (by have := F1.out.be.size; simp; omega) _

theorem make3rT (f c pc : Int) (w : World)  (hh : Hits 3 (IntKind.u64.wrap (f * 4096)) (IntKind.u64.wrap (IntKind.u64.wrap c * 4096)) 1 3 f c false pc) (f0 : 0 ≤ f) (f1 : f ≤ 18446744073709551615) :
    Calls Try.prog 14 #[.agg #[.int .i8 3, .int .u64 f, .int .i64 c, .bool false, .int .i64 pc]] w fun e w' => e = .returned (.tuple #[.agg #[.int .u64 3, .int .u64 (IntKind.u64.wrap (f * 4096)), .int .u64 (IntKind.u64.wrap (IntKind.u64.wrap c * 4096)), .int .u64 1], .int .i64 0]) ∧ Below w.heap.size w w' := by
  have F0 := Lib.hid (Mf.start w 3 f c false pc 3 (IntKind.u64.wrap (f * 4096)) (IntKind.u64.wrap (IntKind.u64.wrap c * 4096)) 1).drew
  have HH := Lib.hid hh
  clear hh
  go_enter Try.func14, Try.ntmps14
  go_wp2_with fail
  refine (number_any 3 _).mono ?_
  rw [show mN 3 = 3 by decide]
  rintro e w' ⟨rfl, rfl⟩
  go_wp2_with fail
  go_region
  go_wp2_with fail
  refine (parse_any 3 _ _ 1 _ (by omega) (u64_bd _).1 (u64_bd _).2 (u64_bd _).1 (u64_bd _).2).mono ?_
  rw [HH.out.e, HH.out.k, HH.out.f, HH.out.c, HH.out.w, HH.out.p]
  rintro e w1 ⟨rfl, hb⟩
  have F1 := Lib.hid (F0.out.mono hb)
  clear hb
  obtain ⟨⟨b0, b1, b2, b3, b4⟩, ⟨r0, r1, r2, r3⟩, ⟨s0, s1, s2, s3⟩, ⟨q0, q1, q2, q3⟩, l0, l1, l2⟩ := F1.out.all
  have lb : w.heap.size ≤ w.heap.size + 1 := by omega
  go_wp2_with fail
  refine bodyPost_ret (v := .tuple #[.agg #[.int .u64 3, .int .u64 (IntKind.u64.wrap (f * 4096)), .int .u64 (IntKind.u64.wrap (IntKind.u64.wrap c * 4096)), .int .u64 1], .int .i64 0]) ?_ rfl ⟨rfl, ?_⟩
  · simp [results, Try.results14, go_sem, r0, r1, r2, r3, l0, l1, l2]
  · exact ((((F1.out.be.setCell lb _).setCell lb _).setCell lb _).setCell lb _).alloc (by have := F1.out.be.size; simp; omega) _

theorem make2T (f c pc : Int) (wr : Bool) (w : World)  (hh : Hits 2 (IntKind.u64.wrap (f * 4096)) (IntKind.u64.wrap (IntKind.u64.wrap c * 4096)) 0 2 f c wr pc) (f0 : 0 ≤ f) (f1 : f ≤ 18446744073709551615) :
    Calls Try.prog 14 #[.agg #[.int .i8 2, .int .u64 f, .int .i64 c, .bool wr, .int .i64 pc]] w fun e w' => e = .returned (.tuple #[.agg #[.int .u64 2, .int .u64 (IntKind.u64.wrap (f * 4096)), .int .u64 (IntKind.u64.wrap (IntKind.u64.wrap c * 4096)), .int .u64 0], .int .i64 0]) ∧ Below w.heap.size w w' := by
  have F0 := Lib.hid (Mf.start w 2 f c wr pc 2 (IntKind.u64.wrap (f * 4096)) (IntKind.u64.wrap (IntKind.u64.wrap c * 4096)) 0).drew
  have HH := Lib.hid hh
  clear hh
  go_enter Try.func14, Try.ntmps14
  go_wp2_with fail
  refine (number_any 2 _).mono ?_
  rw [show mN 2 = 2 by decide]
  rintro e w' ⟨rfl, rfl⟩
  go_wp2_with fail
  go_region
  go_wp2_with fail
  refine (parse_any 2 _ _ 0 _ (by omega) (u64_bd _).1 (u64_bd _).2 (u64_bd _).1 (u64_bd _).2).mono ?_
  rw [HH.out.e, HH.out.k, HH.out.f, HH.out.c, HH.out.w, HH.out.p]
  rintro e w1 ⟨rfl, hb⟩
  have F1 := Lib.hid (F0.out.mono hb)
  clear hb
  obtain ⟨⟨b0, b1, b2, b3, b4⟩, ⟨r0, r1, r2, r3⟩, ⟨s0, s1, s2, s3⟩, ⟨q0, q1, q2, q3⟩, l0, l1, l2⟩ := F1.out.all
  have lb : w.heap.size ≤ w.heap.size + 1 := by omega
  go_wp2_with fail
  refine bodyPost_ret (v := .tuple #[.agg #[.int .u64 2, .int .u64 (IntKind.u64.wrap (f * 4096)), .int .u64 (IntKind.u64.wrap (IntKind.u64.wrap c * 4096)), .int .u64 0], .int .i64 0]) ?_ rfl ⟨rfl, ?_⟩
  · simp [results, Try.results14, go_sem, r0, r1, r2, r3, l0, l1, l2]
  · exact ((((F1.out.be.setCell lb _).setCell lb _).setCell lb _).setCell lb _).alloc (by have := F1.out.be.size; simp; omega) _

theorem make4T (f c pc : Int) (wr : Bool) (w : World)  (hh : Hits 4 0 0 0 4 f c wr pc) (f0 : 0 ≤ f) (f1 : f ≤ 18446744073709551615) :
    Calls Try.prog 14 #[.agg #[.int .i8 4, .int .u64 f, .int .i64 c, .bool wr, .int .i64 pc]] w fun e w' => e = .returned (.tuple #[.agg #[.int .u64 4, .int .u64 0, .int .u64 0, .int .u64 0], .int .i64 0]) ∧ Below w.heap.size w w' := by
  have F0 := Lib.hid (Mf.start w 4 f c wr pc 4 0 0 0)
  have HH := Lib.hid hh
  clear hh
  go_enter Try.func14, Try.ntmps14
  go_wp2_with fail
  refine (number_any 4 _).mono ?_
  rw [show mN 4 = 4 by decide]
  rintro e w' ⟨rfl, rfl⟩
  go_wp2_with fail
  refine (parse_any 4 0 0 0 _ (by omega) (by omega) (by omega) (by omega) (by omega)).mono ?_
  rw [HH.out.e, HH.out.k, HH.out.f, HH.out.c, HH.out.w, HH.out.p]
  rintro e w1 ⟨rfl, hb⟩
  have F1 := Lib.hid (F0.out.mono hb)
  clear hb
  obtain ⟨⟨b0, b1, b2, b3, b4⟩, ⟨r0, r1, r2, r3⟩, ⟨s0, s1, s2, s3⟩, ⟨q0, q1, q2, q3⟩, l0, l1, l2⟩ := F1.out.all
  have lb : w.heap.size ≤ w.heap.size + 1 := by omega
  go_wp2_with fail
  refine bodyPost_ret (v := .tuple #[.agg #[.int .u64 4, .int .u64 0, .int .u64 0, .int .u64 0], .int .i64 0]) ?_ rfl ⟨rfl, ?_⟩
  · simp [results, Try.results14, go_sem, r0, r1, r2, r3, l0, l1, l2]
  · exact ((((F1.out.be.setCell lb _).setCell lb _).setCell lb _).setCell lb _).alloc (by have := F1.out.be.size; simp; omega) _

theorem make5T (f c pc : Int) (wr : Bool) (w : World)  (hh : Hits 5 0 0 0 5 f c wr pc) (f0 : 0 ≤ f) (f1 : f ≤ 18446744073709551615) :
    Calls Try.prog 14 #[.agg #[.int .i8 5, .int .u64 f, .int .i64 c, .bool wr, .int .i64 pc]] w fun e w' => e = .returned (.tuple #[.agg #[.int .u64 5, .int .u64 0, .int .u64 0, .int .u64 0], .int .i64 0]) ∧ Below w.heap.size w w' := by
  have F0 := Lib.hid (Mf.start w 5 f c wr pc 5 0 0 0)
  have HH := Lib.hid hh
  clear hh
  go_enter Try.func14, Try.ntmps14
  go_wp2_with fail
  refine (number_any 5 _).mono ?_
  rw [show mN 5 = 5 by decide]
  rintro e w' ⟨rfl, rfl⟩
  go_wp2_with fail
  refine (parse_any 5 0 0 0 _ (by omega) (by omega) (by omega) (by omega) (by omega)).mono ?_
  rw [HH.out.e, HH.out.k, HH.out.f, HH.out.c, HH.out.w, HH.out.p]
  rintro e w1 ⟨rfl, hb⟩
  have F1 := Lib.hid (F0.out.mono hb)
  clear hb
  obtain ⟨⟨b0, b1, b2, b3, b4⟩, ⟨r0, r1, r2, r3⟩, ⟨s0, s1, s2, s3⟩, ⟨q0, q1, q2, q3⟩, l0, l1, l2⟩ := F1.out.all
  have lb : w.heap.size ≤ w.heap.size + 1 := by omega
  go_wp2_with fail
  refine bodyPost_ret (v := .tuple #[.agg #[.int .u64 5, .int .u64 0, .int .u64 0, .int .u64 0], .int .i64 0]) ?_ rfl ⟨rfl, ?_⟩
  · simp [results, Try.results14, go_sem, r0, r1, r2, r3, l0, l1, l2]
  · exact ((((F1.out.be.setCell lb _).setCell lb _).setCell lb _).setCell lb _).alloc (by have := F1.out.be.size; simp; omega) _

theorem make6T (f c pc : Int) (wr : Bool) (w : World)  (hh : Hits 6 0 0 0 6 f c wr pc) (f0 : 0 ≤ f) (f1 : f ≤ 18446744073709551615) :
    Calls Try.prog 14 #[.agg #[.int .i8 6, .int .u64 f, .int .i64 c, .bool wr, .int .i64 pc]] w fun e w' => e = .returned (.tuple #[.agg #[.int .u64 6, .int .u64 0, .int .u64 0, .int .u64 0], .int .i64 0]) ∧ Below w.heap.size w w' := by
  have F0 := Lib.hid (Mf.start w 6 f c wr pc 6 0 0 0)
  have HH := Lib.hid hh
  clear hh
  go_enter Try.func14, Try.ntmps14
  go_wp2_with fail
  refine (number_any 6 _).mono ?_
  rw [show mN 6 = 6 by decide]
  rintro e w' ⟨rfl, rfl⟩
  go_wp2_with fail
  refine (parse_any 6 0 0 0 _ (by omega) (by omega) (by omega) (by omega) (by omega)).mono ?_
  rw [HH.out.e, HH.out.k, HH.out.f, HH.out.c, HH.out.w, HH.out.p]
  rintro e w1 ⟨rfl, hb⟩
  have F1 := Lib.hid (F0.out.mono hb)
  clear hb
  obtain ⟨⟨b0, b1, b2, b3, b4⟩, ⟨r0, r1, r2, r3⟩, ⟨s0, s1, s2, s3⟩, ⟨q0, q1, q2, q3⟩, l0, l1, l2⟩ := F1.out.all
  have lb : w.heap.size ≤ w.heap.size + 1 := by omega
  go_wp2_with fail
  refine bodyPost_ret (v := .tuple #[.agg #[.int .u64 6, .int .u64 0, .int .u64 0, .int .u64 0], .int .i64 0]) ?_ rfl ⟨rfl, ?_⟩
  · simp [results, Try.results14, go_sem, r0, r1, r2, r3, l0, l1, l2]
  · exact ((((F1.out.be.setCell lb _).setCell lb _).setCell lb _).setCell lb _).alloc (by have := F1.out.be.size; simp; omega) _

theorem make7T (f c pc : Int) (wr : Bool) (w : World)  (hh : Hits 7 (IntKind.u64.wrap pc) 0 0 7 f c wr pc) (f0 : 0 ≤ f) (f1 : f ≤ 18446744073709551615) :
    Calls Try.prog 14 #[.agg #[.int .i8 7, .int .u64 f, .int .i64 c, .bool wr, .int .i64 pc]] w fun e w' => e = .returned (.tuple #[.agg #[.int .u64 7, .int .u64 (IntKind.u64.wrap pc), .int .u64 0, .int .u64 0], .int .i64 0]) ∧ Below w.heap.size w w' := by
  have F0 := Lib.hid (Mf.start w 7 f c wr pc 7 (IntKind.u64.wrap pc) 0 0)
  have HH := Lib.hid hh
  clear hh
  go_enter Try.func14, Try.ntmps14
  go_wp2_with fail
  refine (number_any 7 _).mono ?_
  rw [show mN 7 = 7 by decide]
  rintro e w' ⟨rfl, rfl⟩
  go_wp2_with fail
  refine (parse_any 7 _ 0 0 _ (by omega) (u64_bd _).1 (u64_bd _).2 (by omega) (by omega)).mono ?_
  rw [HH.out.e, HH.out.k, HH.out.f, HH.out.c, HH.out.w, HH.out.p]
  rintro e w1 ⟨rfl, hb⟩
  have F1 := Lib.hid (F0.out.mono hb)
  clear hb
  obtain ⟨⟨b0, b1, b2, b3, b4⟩, ⟨r0, r1, r2, r3⟩, ⟨s0, s1, s2, s3⟩, ⟨q0, q1, q2, q3⟩, l0, l1, l2⟩ := F1.out.all
  have lb : w.heap.size ≤ w.heap.size + 1 := by omega
  go_wp2_with fail
  refine bodyPost_ret (v := .tuple #[.agg #[.int .u64 7, .int .u64 (IntKind.u64.wrap pc), .int .u64 0, .int .u64 0], .int .i64 0]) ?_ rfl ⟨rfl, ?_⟩
  · simp [results, Try.results14, go_sem, r0, r1, r2, r3, l0, l1, l2]
  · exact ((((F1.out.be.setCell lb _).setCell lb _).setCell lb _).setCell lb _).alloc (by have := F1.out.be.size; simp; omega) _

end Go.Proofs.Ytgfnefcgpdkljaa
