/- Layer 21: Make. -/
import Derived.Test.YtgfnefcgpdkljaaB9
namespace Go.Proofs.Ytgfnefcgpdkljaa
open Go.ChangeShapes Go.WideShapes Go.ChangeAt Go.RowKit
set_option linter.unusedVariables false
set_option linter.unusedSimpArgs false

set_option maxHeartbeats 1000000 in
theorem make1wF (f c pc : Int) (w : World)  (hh : ¬ Hits 1 (IntKind.u64.wrap (f * 4096)) (IntKind.u64.wrap (IntKind.u64.wrap c * 4096)) 3 1 f c true pc) (f0 : 0 ≤ f) (f1 : f ≤ 18446744073709551615) :
    Calls Try.prog 14 #[.agg #[.int .i8 1, .int .u64 f, .int .i64 c, .bool true, .int .i64 pc]] w fun e w' => e = .returned (.tuple #[.agg #[.int .u64 0, .int .u64 0, .int .u64 0, .int .u64 0], .int .i64 210]) ∧ Below w.heap.size w w' := by
  have F0 := Lib.hid (Mf.start w 1 f c true pc 1 (IntKind.u64.wrap (f * 4096)) (IntKind.u64.wrap (IntKind.u64.wrap c * 4096)) 3).drew
  have HH := Lib.hid hh
  clear hh
  go_enter Try.func14, Try.ntmps14
  go_wp2_with fail
  refine (number_any 1 _).mono ?_
  rw [show mN 1 = 1 by decide]
  rintro e w' ⟨rfl, rfl⟩
  go_wp2_with fail
  go_region
  go_wp2_with fail
  refine (parse_any 1 _ _ 3 _ (by omega) (u64_bd _).1 (u64_bd _).2 (u64_bd _).1 (u64_bd _).2).mono ?_
  have HN : Hid (¬ (pE 1 (IntKind.u64.wrap (f * 4096)) (IntKind.u64.wrap (IntKind.u64.wrap c * 4096)) 3 = 0 ∧ pK 1 (IntKind.u64.wrap (f * 4096)) (IntKind.u64.wrap (IntKind.u64.wrap c * 4096)) 3 = 1 ∧ pF 1 (IntKind.u64.wrap (f * 4096)) (IntKind.u64.wrap (IntKind.u64.wrap c * 4096)) 3 = f ∧ pC 1 (IntKind.u64.wrap (f * 4096)) (IntKind.u64.wrap (IntKind.u64.wrap c * 4096)) 3 = c ∧ pW 1 (IntKind.u64.wrap (f * 4096)) (IntKind.u64.wrap (IntKind.u64.wrap c * 4096)) 3 = true ∧ pP 1 (IntKind.u64.wrap (f * 4096)) (IntKind.u64.wrap (IntKind.u64.wrap c * 4096)) 3 = pc)) := fun h => HH.out ⟨h.1, h.2.1, h.2.2.1, h.2.2.2.1, h.2.2.2.2.1, h.2.2.2.2.2⟩
  clear HH
  generalize pK 1 (IntKind.u64.wrap (f * 4096)) (IntKind.u64.wrap (IntKind.u64.wrap c * 4096)) 3 = k1 at *
  generalize pF 1 (IntKind.u64.wrap (f * 4096)) (IntKind.u64.wrap (IntKind.u64.wrap c * 4096)) 3 = g1 at *
  generalize pC 1 (IntKind.u64.wrap (f * 4096)) (IntKind.u64.wrap (IntKind.u64.wrap c * 4096)) 3 = c1 at *
  generalize pW 1 (IntKind.u64.wrap (f * 4096)) (IntKind.u64.wrap (IntKind.u64.wrap c * 4096)) 3 = w1 at *
  generalize pP 1 (IntKind.u64.wrap (f * 4096)) (IntKind.u64.wrap (IntKind.u64.wrap c * 4096)) 3 = p1 at *
  generalize pE 1 (IntKind.u64.wrap (f * 4096)) (IntKind.u64.wrap (IntKind.u64.wrap c * 4096)) 3 = e1 at *
  rintro e W1 ⟨rfl, hb⟩
  have F1 := Lib.hid (F0.out.mono hb)
  clear hb
  obtain ⟨⟨b0, b1, b2, b3, b4⟩, ⟨r0, r1, r2, r3⟩, ⟨s0, s1, s2, s3⟩, ⟨q0, q1, q2, q3⟩, l0, l1, l2⟩ := F1.out.all
  have lb : w.heap.size ≤ w.heap.size + 1 := by omega
  cases w1
  all_goals
    by_cases he : e1 = 0
    · subst he
      go_wp2_with fail
      all_goals first
        | (refine bodyPost_ret (v := .tuple #[.agg #[.int .u64 0, .int .u64 0, .int .u64 0, .int .u64 0], .int .i64 210]) ?_ rfl ⟨rfl, ?_⟩; simp [results, Try.results14, go_sem, r0, r1, r2, r3, l0, l1, l2]; exact ((((F1.out.be.setCell lb _).setCell lb _).setCell lb _).setCell lb _).alloc (by have := F1.out.be.size; simp; omega) _)
        | (exfalso; apply HN.out; refine ⟨?_, ?_, ?_, ?_, ?_, ?_⟩ <;> first | trivial | rfl | assumption)
    · have hne : (e1 != 0) = true := by simpa using he
      clear he
      go_wp2_with fail
      refine bodyPost_ret (v := .tuple #[.agg #[.int .u64 0, .int .u64 0, .int .u64 0, .int .u64 0], .int .i64 210]) ?_ rfl ⟨rfl, ?_⟩
      · simp [results, Try.results14, go_sem, r0, r1, r2, r3, l0, l1, l2]
      · exact ((((F1.out.be.setCell lb _).setCell lb _).setCell lb _).setCell lb _).alloc (by have := F1.out.be.size; simp; omega) _

set_option maxHeartbeats 1000000 in
theorem make1rF (f c pc : Int) (w : World)  (hh : ¬ Hits 1 (IntKind.u64.wrap (f * 4096)) (IntKind.u64.wrap (IntKind.u64.wrap c * 4096)) 1 1 f c false pc) (f0 : 0 ≤ f) (f1 : f ≤ 18446744073709551615) :
    Calls Try.prog 14 #[.agg #[.int .i8 1, .int .u64 f, .int .i64 c, .bool false, .int .i64 pc]] w fun e w' => e = .returned (.tuple #[.agg #[.int .u64 0, .int .u64 0, .int .u64 0, .int .u64 0], .int .i64 210]) ∧ Below w.heap.size w w' := by
  have F0 := Lib.hid (Mf.start w 1 f c false pc 1 (IntKind.u64.wrap (f * 4096)) (IntKind.u64.wrap (IntKind.u64.wrap c * 4096)) 1).drew
  have HH := Lib.hid hh
  clear hh
  go_enter Try.func14, Try.ntmps14
  go_wp2_with fail
  refine (number_any 1 _).mono ?_
  rw [show mN 1 = 1 by decide]
  rintro e w' ⟨rfl, rfl⟩
  go_wp2_with fail
  go_region
  go_wp2_with fail
  refine (parse_any 1 _ _ 1 _ (by omega) (u64_bd _).1 (u64_bd _).2 (u64_bd _).1 (u64_bd _).2).mono ?_
  have HN : Hid (¬ (pE 1 (IntKind.u64.wrap (f * 4096)) (IntKind.u64.wrap (IntKind.u64.wrap c * 4096)) 1 = 0 ∧ pK 1 (IntKind.u64.wrap (f * 4096)) (IntKind.u64.wrap (IntKind.u64.wrap c * 4096)) 1 = 1 ∧ pF 1 (IntKind.u64.wrap (f * 4096)) (IntKind.u64.wrap (IntKind.u64.wrap c * 4096)) 1 = f ∧ pC 1 (IntKind.u64.wrap (f * 4096)) (IntKind.u64.wrap (IntKind.u64.wrap c * 4096)) 1 = c ∧ pW 1 (IntKind.u64.wrap (f * 4096)) (IntKind.u64.wrap (IntKind.u64.wrap c * 4096)) 1 = false ∧ pP 1 (IntKind.u64.wrap (f * 4096)) (IntKind.u64.wrap (IntKind.u64.wrap c * 4096)) 1 = pc)) := fun h => HH.out ⟨h.1, h.2.1, h.2.2.1, h.2.2.2.1, h.2.2.2.2.1, h.2.2.2.2.2⟩
  clear HH
  generalize pK 1 (IntKind.u64.wrap (f * 4096)) (IntKind.u64.wrap (IntKind.u64.wrap c * 4096)) 1 = k1 at *
  generalize pF 1 (IntKind.u64.wrap (f * 4096)) (IntKind.u64.wrap (IntKind.u64.wrap c * 4096)) 1 = g1 at *
  generalize pC 1 (IntKind.u64.wrap (f * 4096)) (IntKind.u64.wrap (IntKind.u64.wrap c * 4096)) 1 = c1 at *
  generalize pW 1 (IntKind.u64.wrap (f * 4096)) (IntKind.u64.wrap (IntKind.u64.wrap c * 4096)) 1 = w1 at *
  generalize pP 1 (IntKind.u64.wrap (f * 4096)) (IntKind.u64.wrap (IntKind.u64.wrap c * 4096)) 1 = p1 at *
  generalize pE 1 (IntKind.u64.wrap (f * 4096)) (IntKind.u64.wrap (IntKind.u64.wrap c * 4096)) 1 = e1 at *
  rintro e W1 ⟨rfl, hb⟩
  have F1 := Lib.hid (F0.out.mono hb)
  clear hb
  obtain ⟨⟨b0, b1, b2, b3, b4⟩, ⟨r0, r1, r2, r3⟩, ⟨s0, s1, s2, s3⟩, ⟨q0, q1, q2, q3⟩, l0, l1, l2⟩ := F1.out.all
  have lb : w.heap.size ≤ w.heap.size + 1 := by omega
  cases w1
  all_goals
    by_cases he : e1 = 0
    · subst he
      go_wp2_with fail
      all_goals first
        | (refine bodyPost_ret (v := .tuple #[.agg #[.int .u64 0, .int .u64 0, .int .u64 0, .int .u64 0], .int .i64 210]) ?_ rfl ⟨rfl, ?_⟩; simp [results, Try.results14, go_sem, r0, r1, r2, r3, l0, l1, l2]; exact ((((F1.out.be.setCell lb _).setCell lb _).setCell lb _).setCell lb _).alloc (by have := F1.out.be.size; simp; omega) _)
        | (exfalso; apply HN.out; refine ⟨?_, ?_, ?_, ?_, ?_, ?_⟩ <;> first | trivial | rfl | assumption)
    · have hne : (e1 != 0) = true := by simpa using he
      clear he
      go_wp2_with fail
      refine bodyPost_ret (v := .tuple #[.agg #[.int .u64 0, .int .u64 0, .int .u64 0, .int .u64 0], .int .i64 210]) ?_ rfl ⟨rfl, ?_⟩
      · simp [results, Try.results14, go_sem, r0, r1, r2, r3, l0, l1, l2]
      · exact ((((F1.out.be.setCell lb _).setCell lb _).setCell lb _).setCell lb _).alloc (by have := F1.out.be.size; simp; omega) _

set_option maxHeartbeats 1000000 in
theorem make3wF (f c pc : Int) (w : World)  (hh : ¬ Hits 3 (IntKind.u64.wrap (f * 4096)) (IntKind.u64.wrap (IntKind.u64.wrap c * 4096)) 3 3 f c true pc) (f0 : 0 ≤ f) (f1 : f ≤ 18446744073709551615) :
    Calls Try.prog 14 #[.agg #[.int .i8 3, .int .u64 f, .int .i64 c, .bool true, .int .i64 pc]] w fun e w' => e = .returned (.tuple #[.agg #[.int .u64 0, .int .u64 0, .int .u64 0, .int .u64 0], .int .i64 210]) ∧ Below w.heap.size w w' := by
  have F0 := Lib.hid (Mf.start w 3 f c true pc 3 (IntKind.u64.wrap (f * 4096)) (IntKind.u64.wrap (IntKind.u64.wrap c * 4096)) 3).drew
  have HH := Lib.hid hh
  clear hh
  go_enter Try.func14, Try.ntmps14
  go_wp2_with fail
  refine (number_any 3 _).mono ?_
  rw [show mN 3 = 3 by decide]
  rintro e w' ⟨rfl, rfl⟩
  go_wp2_with fail
  go_region
  go_wp2_with fail
  refine (parse_any 3 _ _ 3 _ (by omega) (u64_bd _).1 (u64_bd _).2 (u64_bd _).1 (u64_bd _).2).mono ?_
  have HN : Hid (¬ (pE 3 (IntKind.u64.wrap (f * 4096)) (IntKind.u64.wrap (IntKind.u64.wrap c * 4096)) 3 = 0 ∧ pK 3 (IntKind.u64.wrap (f * 4096)) (IntKind.u64.wrap (IntKind.u64.wrap c * 4096)) 3 = 3 ∧ pF 3 (IntKind.u64.wrap (f * 4096)) (IntKind.u64.wrap (IntKind.u64.wrap c * 4096)) 3 = f ∧ pC 3 (IntKind.u64.wrap (f * 4096)) (IntKind.u64.wrap (IntKind.u64.wrap c * 4096)) 3 = c ∧ pW 3 (IntKind.u64.wrap (f * 4096)) (IntKind.u64.wrap (IntKind.u64.wrap c * 4096)) 3 = true ∧ pP 3 (IntKind.u64.wrap (f * 4096)) (IntKind.u64.wrap (IntKind.u64.wrap c * 4096)) 3 = pc)) := fun h => HH.out ⟨h.1, h.2.1, h.2.2.1, h.2.2.2.1, h.2.2.2.2.1, h.2.2.2.2.2⟩
  clear HH
  generalize pK 3 (IntKind.u64.wrap (f * 4096)) (IntKind.u64.wrap (IntKind.u64.wrap c * 4096)) 3 = k1 at *
  generalize pF 3 (IntKind.u64.wrap (f * 4096)) (IntKind.u64.wrap (IntKind.u64.wrap c * 4096)) 3 = g1 at *
  generalize pC 3 (IntKind.u64.wrap (f * 4096)) (IntKind.u64.wrap (IntKind.u64.wrap c * 4096)) 3 = c1 at *
  generalize pW 3 (IntKind.u64.wrap (f * 4096)) (IntKind.u64.wrap (IntKind.u64.wrap c * 4096)) 3 = w1 at *
  generalize pP 3 (IntKind.u64.wrap (f * 4096)) (IntKind.u64.wrap (IntKind.u64.wrap c * 4096)) 3 = p1 at *
  generalize pE 3 (IntKind.u64.wrap (f * 4096)) (IntKind.u64.wrap (IntKind.u64.wrap c * 4096)) 3 = e1 at *
  rintro e W1 ⟨rfl, hb⟩
  have F1 := Lib.hid (F0.out.mono hb)
  clear hb
  obtain ⟨⟨b0, b1, b2, b3, b4⟩, ⟨r0, r1, r2, r3⟩, ⟨s0, s1, s2, s3⟩, ⟨q0, q1, q2, q3⟩, l0, l1, l2⟩ := F1.out.all
  have lb : w.heap.size ≤ w.heap.size + 1 := by omega
  cases w1
  all_goals
    by_cases he : e1 = 0
    · subst he
      go_wp2_with fail
      all_goals first
        | (refine bodyPost_ret (v := .tuple #[.agg #[.int .u64 0, .int .u64 0, .int .u64 0, .int .u64 0], .int .i64 210]) ?_ rfl ⟨rfl, ?_⟩; simp [results, Try.results14, go_sem, r0, r1, r2, r3, l0, l1, l2]; exact ((((F1.out.be.setCell lb _).setCell lb _).setCell lb _).setCell lb _).alloc (by have := F1.out.be.size; simp; omega) _)
        | (exfalso; apply HN.out; refine ⟨?_, ?_, ?_, ?_, ?_, ?_⟩ <;> first | trivial | rfl | assumption)
    · have hne : (e1 != 0) = true := by simpa using he
      clear he
      go_wp2_with fail
      refine bodyPost_ret (v := .tuple #[.agg #[.int .u64 0, .int .u64 0, .int .u64 0, .int .u64 0], .int .i64 210]) ?_ rfl ⟨rfl, ?_⟩
      · simp [results, Try.results14, go_sem, r0, r1, r2, r3, l0, l1, l2]
      · exact ((((F1.out.be.setCell lb _).setCell lb _).setCell lb _).setCell lb _).alloc (by have := F1.out.be.size; simp; omega) _

set_option maxHeartbeats 1000000 in
theorem make3rF (f c pc : Int) (w : World)  (hh : ¬ Hits 3 (IntKind.u64.wrap (f * 4096)) (IntKind.u64.wrap (IntKind.u64.wrap c * 4096)) 1 3 f c false pc) (f0 : 0 ≤ f) (f1 : f ≤ 18446744073709551615) :
    Calls Try.prog 14 #[.agg #[.int .i8 3, .int .u64 f, .int .i64 c, .bool false, .int .i64 pc]] w fun e w' => e = .returned (.tuple #[.agg #[.int .u64 0, .int .u64 0, .int .u64 0, .int .u64 0], .int .i64 210]) ∧ Below w.heap.size w w' := by
  have F0 := Lib.hid (Mf.start w 3 f c false pc 3 (IntKind.u64.wrap (f * 4096)) (IntKind.u64.wrap (IntKind.u64.wrap c * 4096)) 1).drew
  have HH := Lib.hid hh
  clear hh
  go_enter Try.func14, Try.ntmps14
  go_wp2_with fail
  refine (number_any 3 _).mono ?_
  rw [show mN 3 = 3 by decide]
  rintro e w' ⟨rfl, rfl⟩
  go_wp2_with fail
  go_region
  go_wp2_with fail
  refine (parse_any 3 _ _ 1 _ (by omega) (u64_bd _).1 (u64_bd _).2 (u64_bd _).1 (u64_bd _).2).mono ?_
  have HN : Hid (¬ (pE 3 (IntKind.u64.wrap (f * 4096)) (IntKind.u64.wrap (IntKind.u64.wrap c * 4096)) 1 = 0 ∧ pK 3 (IntKind.u64.wrap (f * 4096)) (IntKind.u64.wrap (IntKind.u64.wrap c * 4096)) 1 = 3 ∧ pF 3 (IntKind.u64.wrap (f * 4096)) (IntKind.u64.wrap (IntKind.u64.wrap c * 4096)) 1 = f ∧ pC 3 (IntKind.u64.wrap (f * 4096)) (IntKind.u64.wrap (IntKind.u64.wrap c * 4096)) 1 = c ∧ pW 3 (IntKind.u64.wrap (f * 4096)) (IntKind.u64.wrap (IntKind.u64.wrap c * 4096)) 1 = false ∧ pP 3 (IntKind.u64.wrap (f * 4096)) (IntKind.u64.wrap (IntKind.u64.wrap c * 4096)) 1 = pc)) := fun h => HH.out ⟨h.1, h.2.1, h.2.2.1, h.2.2.2.1, h.2.2.2.2.1, h.2.2.2.2.2⟩
  clear HH
  generalize pK 3 (IntKind.u64.wrap (f * 4096)) (IntKind.u64.wrap (IntKind.u64.wrap c * 4096)) 1 = k1 at *
  generalize pF 3 (IntKind.u64.wrap (f * 4096)) (IntKind.u64.wrap (IntKind.u64.wrap c * 4096)) 1 = g1 at *
  generalize pC 3 (IntKind.u64.wrap (f * 4096)) (IntKind.u64.wrap (IntKind.u64.wrap c * 4096)) 1 = c1 at *
  generalize pW 3 (IntKind.u64.wrap (f * 4096)) (IntKind.u64.wrap (IntKind.u64.wrap c * 4096)) 1 = w1 at *
  generalize pP 3 (IntKind.u64.wrap (f * 4096)) (IntKind.u64.wrap (IntKind.u64.wrap c * 4096)) 1 = p1 at *
  generalize pE 3 (IntKind.u64.wrap (f * 4096)) (IntKind.u64.wrap (IntKind.u64.wrap c * 4096)) 1 = e1 at *
  rintro e W1 ⟨rfl, hb⟩
  have F1 := Lib.hid (F0.out.mono hb)
  clear hb
  obtain ⟨⟨b0, b1, b2, b3, b4⟩, ⟨r0, r1, r2, r3⟩, ⟨s0, s1, s2, s3⟩, ⟨q0, q1, q2, q3⟩, l0, l1, l2⟩ := F1.out.all
  have lb : w.heap.size ≤ w.heap.size + 1 := by omega
  cases w1
  all_goals
    by_cases he : e1 = 0
    · subst he
      go_wp2_with fail
      all_goals first
        | (refine bodyPost_ret (v := .tuple #[.agg #[.int .u64 0, .int .u64 0, .int .u64 0, .int .u64 0], .int .i64 210]) ?_ rfl ⟨rfl, ?_⟩; simp [results, Try.results14, go_sem, r0, r1, r2, r3, l0, l1, l2]; exact ((((F1.out.be.setCell lb _).setCell lb _).setCell lb _).setCell lb _).alloc (by have := F1.out.be.size; simp; omega) _)
        | (exfalso; apply HN.out; refine ⟨?_, ?_, ?_, ?_, ?_, ?_⟩ <;> first | trivial | rfl | assumption)
    · have hne : (e1 != 0) = true := by simpa using he
      clear he
      go_wp2_with fail
      refine bodyPost_ret (v := .tuple #[.agg #[.int .u64 0, .int .u64 0, .int .u64 0, .int .u64 0], .int .i64 210]) ?_ rfl ⟨rfl, ?_⟩
      · simp [results, Try.results14, go_sem, r0, r1, r2, r3, l0, l1, l2]
      · exact ((((F1.out.be.setCell lb _).setCell lb _).setCell lb _).setCell lb _).alloc (by have := F1.out.be.size; simp; omega) _

set_option maxHeartbeats 1000000 in
theorem make2F (f c pc : Int) (wr : Bool) (w : World)  (hh : ¬ Hits 2 (IntKind.u64.wrap (f * 4096)) (IntKind.u64.wrap (IntKind.u64.wrap c * 4096)) 0 2 f c wr pc) (f0 : 0 ≤ f) (f1 : f ≤ 18446744073709551615) :
    Calls Try.prog 14 #[.agg #[.int .i8 2, .int .u64 f, .int .i64 c, .bool wr, .int .i64 pc]] w fun e w' => e = .returned (.tuple #[.agg #[.int .u64 0, .int .u64 0, .int .u64 0, .int .u64 0], .int .i64 210]) ∧ Below w.heap.size w w' := by
  have F0 := Lib.hid (Mf.start w 2 f c wr pc 2 (IntKind.u64.wrap (f * 4096)) (IntKind.u64.wrap (IntKind.u64.wrap c * 4096)) 0).drew
  have HH := Lib.hid hh
  clear hh
  go_enter Try.func14, Try.ntmps14
  go_wp2_with fail
  refine (number_any 2 _).mono ?_
  rw [show mN 2 = 2 by decide]
  rintro e w' ⟨rfl, rfl⟩
  go_wp2_with fail
  go_region
  go_wp2_with fail
  refine (parse_any 2 _ _ 0 _ (by omega) (u64_bd _).1 (u64_bd _).2 (u64_bd _).1 (u64_bd _).2).mono ?_
  have HN : Hid (¬ (pE 2 (IntKind.u64.wrap (f * 4096)) (IntKind.u64.wrap (IntKind.u64.wrap c * 4096)) 0 = 0 ∧ pK 2 (IntKind.u64.wrap (f * 4096)) (IntKind.u64.wrap (IntKind.u64.wrap c * 4096)) 0 = 2 ∧ pF 2 (IntKind.u64.wrap (f * 4096)) (IntKind.u64.wrap (IntKind.u64.wrap c * 4096)) 0 = f ∧ pC 2 (IntKind.u64.wrap (f * 4096)) (IntKind.u64.wrap (IntKind.u64.wrap c * 4096)) 0 = c ∧ pW 2 (IntKind.u64.wrap (f * 4096)) (IntKind.u64.wrap (IntKind.u64.wrap c * 4096)) 0 = wr ∧ pP 2 (IntKind.u64.wrap (f * 4096)) (IntKind.u64.wrap (IntKind.u64.wrap c * 4096)) 0 = pc)) := fun h => HH.out ⟨h.1, h.2.1, h.2.2.1, h.2.2.2.1, h.2.2.2.2.1, h.2.2.2.2.2⟩
  clear HH
  generalize pK 2 (IntKind.u64.wrap (f * 4096)) (IntKind.u64.wrap (IntKind.u64.wrap c * 4096)) 0 = k1 at *
  generalize pF 2 (IntKind.u64.wrap (f * 4096)) (IntKind.u64.wrap (IntKind.u64.wrap c * 4096)) 0 = g1 at *
  generalize pC 2 (IntKind.u64.wrap (f * 4096)) (IntKind.u64.wrap (IntKind.u64.wrap c * 4096)) 0 = c1 at *
  generalize pW 2 (IntKind.u64.wrap (f * 4096)) (IntKind.u64.wrap (IntKind.u64.wrap c * 4096)) 0 = w1 at *
  generalize pP 2 (IntKind.u64.wrap (f * 4096)) (IntKind.u64.wrap (IntKind.u64.wrap c * 4096)) 0 = p1 at *
  generalize pE 2 (IntKind.u64.wrap (f * 4096)) (IntKind.u64.wrap (IntKind.u64.wrap c * 4096)) 0 = e1 at *
  rintro e W1 ⟨rfl, hb⟩
  have F1 := Lib.hid (F0.out.mono hb)
  clear hb
  obtain ⟨⟨b0, b1, b2, b3, b4⟩, ⟨r0, r1, r2, r3⟩, ⟨s0, s1, s2, s3⟩, ⟨q0, q1, q2, q3⟩, l0, l1, l2⟩ := F1.out.all
  have lb : w.heap.size ≤ w.heap.size + 1 := by omega
  cases w1 <;> cases wr
  all_goals
    by_cases he : e1 = 0
    · subst he
      go_wp2_with fail
      all_goals first
        | (refine bodyPost_ret (v := .tuple #[.agg #[.int .u64 0, .int .u64 0, .int .u64 0, .int .u64 0], .int .i64 210]) ?_ rfl ⟨rfl, ?_⟩; simp [results, Try.results14, go_sem, r0, r1, r2, r3, l0, l1, l2]; exact ((((F1.out.be.setCell lb _).setCell lb _).setCell lb _).setCell lb _).alloc (by have := F1.out.be.size; simp; omega) _)
        | (exfalso; apply HN.out; refine ⟨?_, ?_, ?_, ?_, ?_, ?_⟩ <;> first | trivial | rfl | assumption)
    · have hne : (e1 != 0) = true := by simpa using he
      clear he
      go_wp2_with fail
      refine bodyPost_ret (v := .tuple #[.agg #[.int .u64 0, .int .u64 0, .int .u64 0, .int .u64 0], .int .i64 210]) ?_ rfl ⟨rfl, ?_⟩
      · simp [results, Try.results14, go_sem, r0, r1, r2, r3, l0, l1, l2]
      · exact ((((F1.out.be.setCell lb _).setCell lb _).setCell lb _).setCell lb _).alloc (by have := F1.out.be.size; simp; omega) _

set_option maxHeartbeats 1000000 in
theorem make4F (f c pc : Int) (wr : Bool) (w : World)  (hh : ¬ Hits 4 0 0 0 4 f c wr pc) (f0 : 0 ≤ f) (f1 : f ≤ 18446744073709551615) :
    Calls Try.prog 14 #[.agg #[.int .i8 4, .int .u64 f, .int .i64 c, .bool wr, .int .i64 pc]] w fun e w' => e = .returned (.tuple #[.agg #[.int .u64 0, .int .u64 0, .int .u64 0, .int .u64 0], .int .i64 210]) ∧ Below w.heap.size w w' := by
  have F0 := Lib.hid (Mf.start w 4 f c wr pc 4 0 0 0)
  have HH := Lib.hid hh
  clear hh
  go_enter Try.func14, Try.ntmps14
  go_wp2_with fail
  refine (number_any 4 _).mono ?_
  rw [show mN 4 = 4 by decide]
  rintro e w' ⟨rfl, rfl⟩
  go_wp2_with fail
  refine (parse_any 4 0 0 0 _ (by omega) (by omega) (by omega) (by omega) (by omega)).mono ?_
  have HN : Hid (¬ (pE 4 0 0 0 = 0 ∧ pK 4 0 0 0 = 4 ∧ pF 4 0 0 0 = f ∧ pC 4 0 0 0 = c ∧ pW 4 0 0 0 = wr ∧ pP 4 0 0 0 = pc)) := fun h => HH.out ⟨h.1, h.2.1, h.2.2.1, h.2.2.2.1, h.2.2.2.2.1, h.2.2.2.2.2⟩
  clear HH
  generalize pK 4 0 0 0 = k1 at *
  generalize pF 4 0 0 0 = g1 at *
  generalize pC 4 0 0 0 = c1 at *
  generalize pW 4 0 0 0 = w1 at *
  generalize pP 4 0 0 0 = p1 at *
  generalize pE 4 0 0 0 = e1 at *
  rintro e W1 ⟨rfl, hb⟩
  have F1 := Lib.hid (F0.out.mono hb)
  clear hb
  obtain ⟨⟨b0, b1, b2, b3, b4⟩, ⟨r0, r1, r2, r3⟩, ⟨s0, s1, s2, s3⟩, ⟨q0, q1, q2, q3⟩, l0, l1, l2⟩ := F1.out.all
  have lb : w.heap.size ≤ w.heap.size + 1 := by omega
  cases w1 <;> cases wr
  all_goals
    by_cases he : e1 = 0
    · subst he
      go_wp2_with fail
      all_goals first
        | (refine bodyPost_ret (v := .tuple #[.agg #[.int .u64 0, .int .u64 0, .int .u64 0, .int .u64 0], .int .i64 210]) ?_ rfl ⟨rfl, ?_⟩; simp [results, Try.results14, go_sem, r0, r1, r2, r3, l0, l1, l2]; exact ((((F1.out.be.setCell lb _).setCell lb _).setCell lb _).setCell lb _).alloc (by have := F1.out.be.size; simp; omega) _)
        | (exfalso; apply HN.out; refine ⟨?_, ?_, ?_, ?_, ?_, ?_⟩ <;> first | trivial | rfl | assumption)
    · have hne : (e1 != 0) = true := by simpa using he
      clear he
      go_wp2_with fail
      refine bodyPost_ret (v := .tuple #[.agg #[.int .u64 0, .int .u64 0, .int .u64 0, .int .u64 0], .int .i64 210]) ?_ rfl ⟨rfl, ?_⟩
      · simp [results, Try.results14, go_sem, r0, r1, r2, r3, l0, l1, l2]
      · exact ((((F1.out.be.setCell lb _).setCell lb _).setCell lb _).setCell lb _).alloc (by have := F1.out.be.size; simp; omega) _

set_option maxHeartbeats 1000000 in
theorem make5F (f c pc : Int) (wr : Bool) (w : World)  (hh : ¬ Hits 5 0 0 0 5 f c wr pc) (f0 : 0 ≤ f) (f1 : f ≤ 18446744073709551615) :
    Calls Try.prog 14 #[.agg #[.int .i8 5, .int .u64 f, .int .i64 c, .bool wr, .int .i64 pc]] w fun e w' => e = .returned (.tuple #[.agg #[.int .u64 0, .int .u64 0, .int .u64 0, .int .u64 0], .int .i64 210]) ∧ Below w.heap.size w w' := by
  have F0 := Lib.hid (Mf.start w 5 f c wr pc 5 0 0 0)
  have HH := Lib.hid hh
  clear hh
  go_enter Try.func14, Try.ntmps14
  go_wp2_with fail
  refine (number_any 5 _).mono ?_
  rw [show mN 5 = 5 by decide]
  rintro e w' ⟨rfl, rfl⟩
  go_wp2_with fail
  refine (parse_any 5 0 0 0 _ (by omega) (by omega) (by omega) (by omega) (by omega)).mono ?_
  have HN : Hid (¬ (pE 5 0 0 0 = 0 ∧ pK 5 0 0 0 = 5 ∧ pF 5 0 0 0 = f ∧ pC 5 0 0 0 = c ∧ pW 5 0 0 0 = wr ∧ pP 5 0 0 0 = pc)) := fun h => HH.out ⟨h.1, h.2.1, h.2.2.1, h.2.2.2.1, h.2.2.2.2.1, h.2.2.2.2.2⟩
  clear HH
  generalize pK 5 0 0 0 = k1 at *
  generalize pF 5 0 0 0 = g1 at *
  generalize pC 5 0 0 0 = c1 at *
  generalize pW 5 0 0 0 = w1 at *
  generalize pP 5 0 0 0 = p1 at *
  generalize pE 5 0 0 0 = e1 at *
  rintro e W1 ⟨rfl, hb⟩
  have F1 := Lib.hid (F0.out.mono hb)
  clear hb
  obtain ⟨⟨b0, b1, b2, b3, b4⟩, ⟨r0, r1, r2, r3⟩, ⟨s0, s1, s2, s3⟩, ⟨q0, q1, q2, q3⟩, l0, l1, l2⟩ := F1.out.all
  have lb : w.heap.size ≤ w.heap.size + 1 := by omega
  cases w1 <;> cases wr
  all_goals
    by_cases he : e1 = 0
    · subst he
      go_wp2_with fail
      all_goals first
        | (refine bodyPost_ret (v := .tuple #[.agg #[.int .u64 0, .int .u64 0, .int .u64 0, .int .u64 0], .int .i64 210]) ?_ rfl ⟨rfl, ?_⟩; simp [results, Try.results14, go_sem, r0, r1, r2, r3, l0, l1, l2]; exact ((((F1.out.be.setCell lb _).setCell lb _).setCell lb _).setCell lb _).alloc (by have := F1.out.be.size; simp; omega) _)
        | (exfalso; apply HN.out; refine ⟨?_, ?_, ?_, ?_, ?_, ?_⟩ <;> first | trivial | rfl | assumption)
    · have hne : (e1 != 0) = true := by simpa using he
      clear he
      go_wp2_with fail
      refine bodyPost_ret (v := .tuple #[.agg #[.int .u64 0, .int .u64 0, .int .u64 0, .int .u64 0], .int .i64 210]) ?_ rfl ⟨rfl, ?_⟩
      · simp [results, Try.results14, go_sem, r0, r1, r2, r3, l0, l1, l2]
      · exact ((((F1.out.be.setCell lb _).setCell lb _).setCell lb _).setCell lb _).alloc (by have := F1.out.be.size; simp; omega) _

set_option maxHeartbeats 1000000 in
theorem make6F (f c pc : Int) (wr : Bool) (w : World)  (hh : ¬ Hits 6 0 0 0 6 f c wr pc) (f0 : 0 ≤ f) (f1 : f ≤ 18446744073709551615) :
    Calls Try.prog 14 #[.agg #[.int .i8 6, .int .u64 f, .int .i64 c, .bool wr, .int .i64 pc]] w fun e w' => e = .returned (.tuple #[.agg #[.int .u64 0, .int .u64 0, .int .u64 0, .int .u64 0], .int .i64 210]) ∧ Below w.heap.size w w' := by
  have F0 := Lib.hid (Mf.start w 6 f c wr pc 6 0 0 0)
  have HH := Lib.hid hh
  clear hh
  go_enter Try.func14, Try.ntmps14
  go_wp2_with fail
  refine (number_any 6 _).mono ?_
  rw [show mN 6 = 6 by decide]
  rintro e w' ⟨rfl, rfl⟩
  go_wp2_with fail
  refine (parse_any 6 0 0 0 _ (by omega) (by omega) (by omega) (by omega) (by omega)).mono ?_
  have HN : Hid (¬ (pE 6 0 0 0 = 0 ∧ pK 6 0 0 0 = 6 ∧ pF 6 0 0 0 = f ∧ pC 6 0 0 0 = c ∧ pW 6 0 0 0 = wr ∧ pP 6 0 0 0 = pc)) := fun h => HH.out ⟨h.1, h.2.1, h.2.2.1, h.2.2.2.1, h.2.2.2.2.1, h.2.2.2.2.2⟩
  clear HH
  generalize pK 6 0 0 0 = k1 at *
  generalize pF 6 0 0 0 = g1 at *
  generalize pC 6 0 0 0 = c1 at *
  generalize pW 6 0 0 0 = w1 at *
  generalize pP 6 0 0 0 = p1 at *
  generalize pE 6 0 0 0 = e1 at *
  rintro e W1 ⟨rfl, hb⟩
  have F1 := Lib.hid (F0.out.mono hb)
  clear hb
  obtain ⟨⟨b0, b1, b2, b3, b4⟩, ⟨r0, r1, r2, r3⟩, ⟨s0, s1, s2, s3⟩, ⟨q0, q1, q2, q3⟩, l0, l1, l2⟩ := F1.out.all
  have lb : w.heap.size ≤ w.heap.size + 1 := by omega
  cases w1 <;> cases wr
  all_goals
    by_cases he : e1 = 0
    · subst he
      go_wp2_with fail
      all_goals first
        | (refine bodyPost_ret (v := .tuple #[.agg #[.int .u64 0, .int .u64 0, .int .u64 0, .int .u64 0], .int .i64 210]) ?_ rfl ⟨rfl, ?_⟩; simp [results, Try.results14, go_sem, r0, r1, r2, r3, l0, l1, l2]; exact ((((F1.out.be.setCell lb _).setCell lb _).setCell lb _).setCell lb _).alloc (by have := F1.out.be.size; simp; omega) _)
        | (exfalso; apply HN.out; refine ⟨?_, ?_, ?_, ?_, ?_, ?_⟩ <;> first | trivial | rfl | assumption)
    · have hne : (e1 != 0) = true := by simpa using he
      clear he
      go_wp2_with fail
      refine bodyPost_ret (v := .tuple #[.agg #[.int .u64 0, .int .u64 0, .int .u64 0, .int .u64 0], .int .i64 210]) ?_ rfl ⟨rfl, ?_⟩
      · simp [results, Try.results14, go_sem, r0, r1, r2, r3, l0, l1, l2]
      · exact ((((F1.out.be.setCell lb _).setCell lb _).setCell lb _).setCell lb _).alloc (by have := F1.out.be.size; simp; omega) _

set_option maxHeartbeats 1000000 in
theorem make7F (f c pc : Int) (wr : Bool) (w : World)  (hh : ¬ Hits 7 (IntKind.u64.wrap pc) 0 0 7 f c wr pc) (f0 : 0 ≤ f) (f1 : f ≤ 18446744073709551615) :
    Calls Try.prog 14 #[.agg #[.int .i8 7, .int .u64 f, .int .i64 c, .bool wr, .int .i64 pc]] w fun e w' => e = .returned (.tuple #[.agg #[.int .u64 0, .int .u64 0, .int .u64 0, .int .u64 0], .int .i64 210]) ∧ Below w.heap.size w w' := by
  have F0 := Lib.hid (Mf.start w 7 f c wr pc 7 (IntKind.u64.wrap pc) 0 0)
  have HH := Lib.hid hh
  clear hh
  go_enter Try.func14, Try.ntmps14
  go_wp2_with fail
  refine (number_any 7 _).mono ?_
  rw [show mN 7 = 7 by decide]
  rintro e w' ⟨rfl, rfl⟩
  go_wp2_with fail
  refine (parse_any 7 _ 0 0 _ (by omega) (u64_bd _).1 (u64_bd _).2 (by omega) (by omega)).mono ?_
  have HN : Hid (¬ (pE 7 (IntKind.u64.wrap pc) 0 0 = 0 ∧ pK 7 (IntKind.u64.wrap pc) 0 0 = 7 ∧ pF 7 (IntKind.u64.wrap pc) 0 0 = f ∧ pC 7 (IntKind.u64.wrap pc) 0 0 = c ∧ pW 7 (IntKind.u64.wrap pc) 0 0 = wr ∧ pP 7 (IntKind.u64.wrap pc) 0 0 = pc)) := fun h => HH.out ⟨h.1, h.2.1, h.2.2.1, h.2.2.2.1, h.2.2.2.2.1, h.2.2.2.2.2⟩
  clear HH
  generalize pK 7 (IntKind.u64.wrap pc) 0 0 = k1 at *
  generalize pF 7 (IntKind.u64.wrap pc) 0 0 = g1 at *
  generalize pC 7 (IntKind.u64.wrap pc) 0 0 = c1 at *
  generalize pW 7 (IntKind.u64.wrap pc) 0 0 = w1 at *
  generalize pP 7 (IntKind.u64.wrap pc) 0 0 = p1 at *
  generalize pE 7 (IntKind.u64.wrap pc) 0 0 = e1 at *
  rintro e W1 ⟨rfl, hb⟩
  have F1 := Lib.hid (F0.out.mono hb)
  clear hb
  obtain ⟨⟨b0, b1, b2, b3, b4⟩, ⟨r0, r1, r2, r3⟩, ⟨s0, s1, s2, s3⟩, ⟨q0, q1, q2, q3⟩, l0, l1, l2⟩ := F1.out.all
  have lb : w.heap.size ≤ w.heap.size + 1 := by omega
  cases w1 <;> cases wr
  all_goals
    by_cases he : e1 = 0
    · subst he
      go_wp2_with fail
      all_goals first
        | (refine bodyPost_ret (v := .tuple #[.agg #[.int .u64 0, .int .u64 0, .int .u64 0, .int .u64 0], .int .i64 210]) ?_ rfl ⟨rfl, ?_⟩; simp [results, Try.results14, go_sem, r0, r1, r2, r3, l0, l1, l2]; exact ((((F1.out.be.setCell lb _).setCell lb _).setCell lb _).setCell lb _).alloc (by have := F1.out.be.size; simp; omega) _)
        | (exfalso; apply HN.out; refine ⟨?_, ?_, ?_, ?_, ?_, ?_⟩ <;> first | trivial | rfl | assumption)
    · have hne : (e1 != 0) = true := by simpa using he
      clear he
      go_wp2_with fail
      refine bodyPost_ret (v := .tuple #[.agg #[.int .u64 0, .int .u64 0, .int .u64 0, .int .u64 0], .int .i64 210]) ?_ rfl ⟨rfl, ?_⟩
      · simp [results, Try.results14, go_sem, r0, r1, r2, r3, l0, l1, l2]
      · exact ((((F1.out.be.setCell lb _).setCell lb _).setCell lb _).setCell lb _).alloc (by have := F1.out.be.size; simp; omega) _

set_option maxHeartbeats 1000000 in
theorem makeNF (k f c pc : Int) (wr : Bool) (w : World) (hk : ¬ (1 ≤ k ∧ k ≤ 7)) (hh : ¬ Hits 0 0 0 0 k f c wr pc) (f0 : 0 ≤ f) (f1 : f ≤ 18446744073709551615) :
    Calls Try.prog 14 #[.agg #[.int .i8 k, .int .u64 f, .int .i64 c, .bool wr, .int .i64 pc]] w fun e w' => e = .returned (.tuple #[.agg #[.int .u64 0, .int .u64 0, .int .u64 0, .int .u64 0], .int .i64 210]) ∧ Below w.heap.size w w' := by
  have F0 := Lib.hid (Mf.start w k f c wr pc 0 0 0 0)
  have HH := Lib.hid hh
  clear hh
  have t1 : (k == 1) = false := by simp; omega
  have t2 : (k == 2) = false := by simp; omega
  have t3 : (k == 3) = false := by simp; omega
  have t4 : (k == 4) = false := by simp; omega
  have t5 : (k == 5) = false := by simp; omega
  have t6 : (k == 6) = false := by simp; omega
  have t7 : (k == 7) = false := by simp; omega
  have HK := Lib.hid hk
  clear hk
  go_enter Try.func14, Try.ntmps14
  go_wp2_with fail
  refine (number_any k _).mono ?_
  rw [show mN k = 0 by unfold mN; exact if_neg HK.out]
  rintro e w' ⟨rfl, rfl⟩
  go_wp2_with fail
  refine (parse_any 0 0 0 0 _ (by omega) (by omega) (by omega) (by omega) (by omega)).mono ?_
  have HN : Hid (¬ (pE 0 0 0 0 = 0 ∧ pK 0 0 0 0 = k ∧ pF 0 0 0 0 = f ∧ pC 0 0 0 0 = c ∧ pW 0 0 0 0 = wr ∧ pP 0 0 0 0 = pc)) := fun h => HH.out ⟨h.1, h.2.1, h.2.2.1, h.2.2.2.1, h.2.2.2.2.1, h.2.2.2.2.2⟩
  clear HH
  generalize pK 0 0 0 0 = k1 at *
  generalize pF 0 0 0 0 = g1 at *
  generalize pC 0 0 0 0 = c1 at *
  generalize pW 0 0 0 0 = w1 at *
  generalize pP 0 0 0 0 = p1 at *
  generalize pE 0 0 0 0 = e1 at *
  rintro e W1 ⟨rfl, hb⟩
  have F1 := Lib.hid (F0.out.mono hb)
  clear hb
  obtain ⟨⟨b0, b1, b2, b3, b4⟩, ⟨r0, r1, r2, r3⟩, ⟨s0, s1, s2, s3⟩, ⟨q0, q1, q2, q3⟩, l0, l1, l2⟩ := F1.out.all
  have lb : w.heap.size ≤ w.heap.size + 1 := by omega
  cases w1 <;> cases wr
  all_goals
    by_cases he : e1 = 0
    · subst he
      go_wp2_with fail
      all_goals first
        | (refine bodyPost_ret (v := .tuple #[.agg #[.int .u64 0, .int .u64 0, .int .u64 0, .int .u64 0], .int .i64 210]) ?_ rfl ⟨rfl, ?_⟩; simp [results, Try.results14, go_sem, r0, r1, r2, r3, l0, l1, l2]; exact ((((F1.out.be.setCell lb _).setCell lb _).setCell lb _).setCell lb _).alloc (by have := F1.out.be.size; simp; omega) _)
        | (exfalso; apply HN.out; refine ⟨?_, ?_, ?_, ?_, ?_, ?_⟩ <;> first | trivial | rfl | assumption)
    · have hne : (e1 != 0) = true := by simpa using he
      clear he
      go_wp2_with fail
      refine bodyPost_ret (v := .tuple #[.agg #[.int .u64 0, .int .u64 0, .int .u64 0, .int .u64 0], .int .i64 210]) ?_ rfl ⟨rfl, ?_⟩
      · simp [results, Try.results14, go_sem, r0, r1, r2, r3, l0, l1, l2]
      · exact ((((F1.out.be.setCell lb _).setCell lb _).setCell lb _).setCell lb _).alloc (by have := F1.out.be.size; simp; omega) _

end Go.Proofs.Ytgfnefcgpdkljaa
