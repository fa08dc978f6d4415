/- Layer 21: the document's Make. -/
import Derived.Test.YtgfnefcgpdkljaaB9
namespace Go.Proofs.Ytgfnefcgpdkljaa
open Go.ChangeShapes Go.WideShapes Go.ChangeAt Go.RowKit
set_option linter.unusedVariables false
set_option linter.unusedSimpArgs false

theorem rmake1b1 (f c pc : Int) (wr : Bool) (w : World) (h : 34359738368 ≤ f) (f0 : 0 ≤ f) (f1 : f ≤ 18446744073709551615) :
    Calls Try.prog 15 #[.agg #[.int .i8 1, .int .u64 f, .int .i64 c, .bool wr, .int .i64 pc]] w fun e w' => e = .returned (.tuple #[.agg #[.int .u64 0, .int .u64 0, .int .u64 0, .int .u64 0], .int .i64 210]) ∧ Below w.heap.size w w' := by
  have u1 : decide (34359738368 ≤ f) = true := by simp; omega
  go_enter Try.func15, Try.ntmps15
  go_wp2_with fail
  refine bodyPost_ret (v := .tuple #[.agg #[.int .u64 0, .int .u64 0, .int .u64 0, .int .u64 0], .int .i64 210]) (by simp [results, Try.results15, go_sem]) rfl ⟨rfl, ?_⟩
  exact (((Below.refl _ _).alloc (Nat.le_refl _) _).alloc (by simp) _).alloc (by simp; omega) _

theorem rmake1b2 (f c pc : Int) (wr : Bool) (w : World) (h : f < 34359738368) (h2 : c < 1) (f0 : 0 ≤ f) (f1 : f ≤ 18446744073709551615) :
    Calls Try.prog 15 #[.agg #[.int .i8 1, .int .u64 f, .int .i64 c, .bool wr, .int .i64 pc]] w fun e w' => e = .returned (.tuple #[.agg #[.int .u64 0, .int .u64 0, .int .u64 0, .int .u64 0], .int .i64 210]) ∧ Below w.heap.size w w' := by
  have u1 : decide (34359738368 ≤ f) = false := by simp; omega
  have u2 : decide (c < 1) = true := by simp; omega
  go_enter Try.func15, Try.ntmps15
  go_wp2_with fail
  refine bodyPost_ret (v := .tuple #[.agg #[.int .u64 0, .int .u64 0, .int .u64 0, .int .u64 0], .int .i64 210]) (by simp [results, Try.results15, go_sem]) rfl ⟨rfl, ?_⟩
  exact (((Below.refl _ _).alloc (Nat.le_refl _) _).alloc (by simp) _).alloc (by simp; omega) _

theorem rmake1b3 (f c pc : Int) (wr : Bool) (w : World) (h : f < 34359738368) (h2 : 1 ≤ c) (h3 : 1048576 < c) (f0 : 0 ≤ f) (f1 : f ≤ 18446744073709551615) :
    Calls Try.prog 15 #[.agg #[.int .i8 1, .int .u64 f, .int .i64 c, .bool wr, .int .i64 pc]] w fun e w' => e = .returned (.tuple #[.agg #[.int .u64 0, .int .u64 0, .int .u64 0, .int .u64 0], .int .i64 210]) ∧ Below w.heap.size w w' := by
  have u1 : decide (34359738368 ≤ f) = false := by simp; omega
  have u2 : decide (c < 1) = false := by simp; omega
  have u3 : decide (1048576 < c) = true := by simp; omega
  go_enter Try.func15, Try.ntmps15
  go_wp2_with fail
  refine bodyPost_ret (v := .tuple #[.agg #[.int .u64 0, .int .u64 0, .int .u64 0, .int .u64 0], .int .i64 210]) (by simp [results, Try.results15, go_sem]) rfl ⟨rfl, ?_⟩
  exact (((Below.refl _ _).alloc (Nat.le_refl _) _).alloc (by simp) _).alloc (by simp; omega) _

theorem rmake2b1 (f c pc : Int) (wr : Bool) (w : World) (h : 34359738368 ≤ f) (f0 : 0 ≤ f) (f1 : f ≤ 18446744073709551615) :
    Calls Try.prog 15 #[.agg #[.int .i8 2, .int .u64 f, .int .i64 c, .bool wr, .int .i64 pc]] w fun e w' => e = .returned (.tuple #[.agg #[.int .u64 0, .int .u64 0, .int .u64 0, .int .u64 0], .int .i64 210]) ∧ Below w.heap.size w w' := by
  have u1 : decide (34359738368 ≤ f) = true := by simp; omega
  go_enter Try.func15, Try.ntmps15
  go_wp2_with fail
  refine bodyPost_ret (v := .tuple #[.agg #[.int .u64 0, .int .u64 0, .int .u64 0, .int .u64 0], .int .i64 210]) (by simp [results, Try.results15, go_sem]) rfl ⟨rfl, ?_⟩
  exact (((Below.refl _ _).alloc (Nat.le_refl _) _).alloc (by simp) _).alloc (by simp; omega) _

theorem rmake2b2 (f c pc : Int) (wr : Bool) (w : World) (h : f < 34359738368) (h2 : c < 1) (f0 : 0 ≤ f) (f1 : f ≤ 18446744073709551615) :
    Calls Try.prog 15 #[.agg #[.int .i8 2, .int .u64 f, .int .i64 c, .bool wr, .int .i64 pc]] w fun e w' => e = .returned (.tuple #[.agg #[.int .u64 0, .int .u64 0, .int .u64 0, .int .u64 0], .int .i64 210]) ∧ Below w.heap.size w w' := by
  have u1 : decide (34359738368 ≤ f) = false := by simp; omega
  have u2 : decide (c < 1) = true := by simp; omega
  go_enter Try.func15, Try.ntmps15
  go_wp2_with fail
  refine bodyPost_ret (v := .tuple #[.agg #[.int .u64 0, .int .u64 0, .int .u64 0, .int .u64 0], .int .i64 210]) (by simp [results, Try.results15, go_sem]) rfl ⟨rfl, ?_⟩
  exact (((Below.refl _ _).alloc (Nat.le_refl _) _).alloc (by simp) _).alloc (by simp; omega) _

theorem rmake2b3 (f c pc : Int) (wr : Bool) (w : World) (h : f < 34359738368) (h2 : 1 ≤ c) (h3 : 1048576 < c) (f0 : 0 ≤ f) (f1 : f ≤ 18446744073709551615) :
    Calls Try.prog 15 #[.agg #[.int .i8 2, .int .u64 f, .int .i64 c, .bool wr, .int .i64 pc]] w fun e w' => e = .returned (.tuple #[.agg #[.int .u64 0, .int .u64 0, .int .u64 0, .int .u64 0], .int .i64 210]) ∧ Below w.heap.size w w' := by
  have u1 : decide (34359738368 ≤ f) = false := by simp; omega
  have u2 : decide (c < 1) = false := by simp; omega
  have u3 : decide (1048576 < c) = true := by simp; omega
  go_enter Try.func15, Try.ntmps15
  go_wp2_with fail
  refine bodyPost_ret (v := .tuple #[.agg #[.int .u64 0, .int .u64 0, .int .u64 0, .int .u64 0], .int .i64 210]) (by simp [results, Try.results15, go_sem]) rfl ⟨rfl, ?_⟩
  exact (((Below.refl _ _).alloc (Nat.le_refl _) _).alloc (by simp) _).alloc (by simp; omega) _

theorem rmake3b1 (f c pc : Int) (wr : Bool) (w : World) (h : 34359738368 ≤ f) (f0 : 0 ≤ f) (f1 : f ≤ 18446744073709551615) :
    Calls Try.prog 15 #[.agg #[.int .i8 3, .int .u64 f, .int .i64 c, .bool wr, .int .i64 pc]] w fun e w' => e = .returned (.tuple #[.agg #[.int .u64 0, .int .u64 0, .int .u64 0, .int .u64 0], .int .i64 210]) ∧ Below w.heap.size w w' := by
  have u1 : decide (34359738368 ≤ f) = true := by simp; omega
  go_enter Try.func15, Try.ntmps15
  go_wp2_with fail
  refine bodyPost_ret (v := .tuple #[.agg #[.int .u64 0, .int .u64 0, .int .u64 0, .int .u64 0], .int .i64 210]) (by simp [results, Try.results15, go_sem]) rfl ⟨rfl, ?_⟩
  exact (((Below.refl _ _).alloc (Nat.le_refl _) _).alloc (by simp) _).alloc (by simp; omega) _

theorem rmake3b2 (f c pc : Int) (wr : Bool) (w : World) (h : f < 34359738368) (h2 : c < 1) (f0 : 0 ≤ f) (f1 : f ≤ 18446744073709551615) :
    Calls Try.prog 15 #[.agg #[.int .i8 3, .int .u64 f, .int .i64 c, .bool wr, .int .i64 pc]] w fun e w' => e = .returned (.tuple #[.agg #[.int .u64 0, .int .u64 0, .int .u64 0, .int .u64 0], .int .i64 210]) ∧ Below w.heap.size w w' := by
  have u1 : decide (34359738368 ≤ f) = false := by simp; omega
  have u2 : decide (c < 1) = true := by simp; omega
  go_enter Try.func15, Try.ntmps15
  go_wp2_with fail
  refine bodyPost_ret (v := .tuple #[.agg #[.int .u64 0, .int .u64 0, .int .u64 0, .int .u64 0], .int .i64 210]) (by simp [results, Try.results15, go_sem]) rfl ⟨rfl, ?_⟩
  exact (((Below.refl _ _).alloc (Nat.le_refl _) _).alloc (by simp) _).alloc (by simp; omega) _

theorem rmake3b3 (f c pc : Int) (wr : Bool) (w : World) (h : f < 34359738368) (h2 : 1 ≤ c) (h3 : 1048576 < c) (f0 : 0 ≤ f) (f1 : f ≤ 18446744073709551615) :
    Calls Try.prog 15 #[.agg #[.int .i8 3, .int .u64 f, .int .i64 c, .bool wr, .int .i64 pc]] w fun e w' => e = .returned (.tuple #[.agg #[.int .u64 0, .int .u64 0, .int .u64 0, .int .u64 0], .int .i64 210]) ∧ Below w.heap.size w w' := by
  have u1 : decide (34359738368 ≤ f) = false := by simp; omega
  have u2 : decide (c < 1) = false := by simp; omega
  have u3 : decide (1048576 < c) = true := by simp; omega
  go_enter Try.func15, Try.ntmps15
  go_wp2_with fail
  refine bodyPost_ret (v := .tuple #[.agg #[.int .u64 0, .int .u64 0, .int .u64 0, .int .u64 0], .int .i64 210]) (by simp [results, Try.results15, go_sem]) rfl ⟨rfl, ?_⟩
  exact (((Below.refl _ _).alloc (Nat.le_refl _) _).alloc (by simp) _).alloc (by simp; omega) _

theorem rmake7b (f c pc : Int) (wr : Bool) (w : World) (h : pc < 0) (f0 : 0 ≤ f) (f1 : f ≤ 18446744073709551615) :
    Calls Try.prog 15 #[.agg #[.int .i8 7, .int .u64 f, .int .i64 c, .bool wr, .int .i64 pc]] w fun e w' => e = .returned (.tuple #[.agg #[.int .u64 0, .int .u64 0, .int .u64 0, .int .u64 0], .int .i64 210]) ∧ Below w.heap.size w w' := by
  have u1 : decide (pc < 0) = true := by simp; omega
  go_enter Try.func15, Try.ntmps15
  go_wp2_with fail
  refine bodyPost_ret (v := .tuple #[.agg #[.int .u64 0, .int .u64 0, .int .u64 0, .int .u64 0], .int .i64 210]) (by simp [results, Try.results15, go_sem]) rfl ⟨rfl, ?_⟩
  exact (((Below.refl _ _).alloc (Nat.le_refl _) _).alloc (by simp) _).alloc (by simp; omega) _

theorem rmake1wT (f c pc : Int) (w : World) (hf : f < 34359738368) (hc1 : 1 ≤ c) (hc2 : c ≤ 1048576) (hh : Hits 1 (f * 4096) (c * 4096) 3 1 f c true pc) (f0 : 0 ≤ f) (f1 : f ≤ 18446744073709551615) :
    Calls Try.prog 15 #[.agg #[.int .i8 1, .int .u64 f, .int .i64 c, .bool true, .int .i64 pc]] w fun e w' => e = .returned (.tuple #[.agg #[.int .u64 1, .int .u64 (f * 4096), .int .u64 (c * 4096), .int .u64 3], .int .i64 0]) ∧ Below w.heap.size w w' := by
  have F0 := Lib.hid (Mf.start w 1 f c true pc 1 (f * 4096) (c * 4096) 3)
  have HH := Lib.hid hh
  clear hh
  have u1 : decide (34359738368 ≤ f) = false := by simp; omega
  have u2 : decide (c < 1) = false := by simp; omega
  have u3 : decide (1048576 < c) = false := by simp; omega
  go_enter Try.func15, Try.ntmps15
  go_wp2_with fail
  refine (rparse_any 1 (f * 4096) (c * 4096) 3 _ (by omega) (by omega) (by omega) (by omega) (by omega)).mono ?_
  rw [HH.out.e, HH.out.k, HH.out.f, HH.out.c, HH.out.w, HH.out.p]
  rintro e w1 ⟨rfl, hb⟩
  have F1 := Lib.hid (F0.out.mono hb)
  clear hb
  obtain ⟨⟨b0, b1, b2, b3, b4⟩, ⟨r0, r1, r2, r3⟩, ⟨s0, s1, s2, s3⟩, ⟨q0, q1, q2, q3⟩, l0, l1, l2⟩ := F1.out.all
  have lb : w.heap.size ≤ w.heap.size + 1 := by omega
  go_wp2_with fail
  refine bodyPost_ret (v := .tuple #[.agg #[.int .u64 1, .int .u64 (f * 4096), .int .u64 (c * 4096), .int .u64 3], .int .i64 0]) ?_ rfl ⟨rfl, ?_⟩
  · simp [results, Try.results15, go_sem, r0, r1, r2, r3, l0, l1, l2]
  · exact ((((F1.out.be.setCell lb _).setCell lb _).setCell lb _).setCell lb _).alloc (by have := F1.out.be.size; simp; omega) _

theorem rmake1rT (f c pc : Int) (w : World) (hf : f < 34359738368) (hc1 : 1 ≤ c) (hc2 : c ≤ 1048576) (hh : Hits 1 (f * 4096) (c * 4096) 1 1 f c false pc) (f0 : 0 ≤ f) (f1 : f ≤ 18446744073709551615) :
    Calls Try.prog 15 #[.agg #[.int .i8 1, .int .u64 f, .int .i64 c, .bool false, .int .i64 pc]] w fun e w' => e = .returned (.tuple #[.agg #[.int .u64 1, .int .u64 (f * 4096), .int .u64 (c * 4096), .int .u64 1], .int .i64 0]) ∧ Below w.heap.size w w' := by
  have F0 := Lib.hid (Mf.start w 1 f c false pc 1 (f * 4096) (c * 4096) 1)
  have HH := Lib.hid hh
  clear hh
  have u1 : decide (34359738368 ≤ f) = false := by simp; omega
  have u2 : decide (c < 1) = false := by simp; omega
  have u3 : decide (1048576 < c) = false := by simp; omega
  go_enter Try.func15, Try.ntmps15
  go_wp2_with fail
  refine (rparse_any 1 (f * 4096) (c * 4096) 1 _ (by omega) (by omega) (by omega) (by omega) (by omega)).mono ?_
  rw [HH.out.e, HH.out.k, HH.out.f, HH.out.c, HH.out.w, HH.out.p]
  rintro e w1 ⟨rfl, hb⟩
  have F1 := Lib.hid (F0.out.mono hb)
  clear hb
  obtain ⟨⟨b0, b1, b2, b3, b4⟩, ⟨r0, r1, r2, r3⟩, ⟨s0, s1, s2, s3⟩, ⟨q0, q1, q2, q3⟩, l0, l1, l2⟩ := F1.out.all
  have lb : w.heap.size ≤ w.heap.size + 1 := by omega
  go_wp2_with fail
  refine bodyPost_ret (v := .tuple #[.agg #[.int .u64 1, .int .u64 (f * 4096), .int .u64 (c * 4096), .int .u64 1], .int .i64 0]) ?_ rfl ⟨rfl, ?_⟩
  · simp [results, Try.results15, go_sem, r0, r1, r2, r3, l0, l1, l2]
  · exact ((((F1.out.be.setCell lb _).setCell lb _).setCell lb _).setCell lb _).alloc (by have := F1.out.be.size; simp; omega) _

theorem rmake3wT (f c pc : Int) (w : World) (hf : f < 34359738368) (hc1 : 1 ≤ c) (hc2 : c ≤ 1048576) (hh : Hits 3 (f * 4096) (c * 4096) 3 3 f c true pc) (f0 : 0 ≤ f) (f1 : f ≤ 18446744073709551615) :
    Calls Try.prog 15 #[.agg #[.int .i8 3, .int .u64 f, .int .i64 c, .bool true, .int .i64 pc]] w fun e w' => e = .returned (.tuple #[.agg #[.int .u64 3, .int .u64 (f * 4096), .int .u64 (c * 4096), .int .u64 3], .int .i64 0]) ∧ Below w.heap.size w w' := by
  have F0 := Lib.hid (Mf.start w 3 f c true pc 3 (f * 4096) (c * 4096) 3)
  have HH := Lib.hid hh
  clear hh
  have u1 : decide (34359738368 ≤ f) = false := by simp; omega
  have u2 : decide (c < 1) = false := by simp; omega
  have u3 : decide (1048576 < c) = false := by simp; omega
  go_enter Try.func15, Try.ntmps15
  go_wp2_with fail
  refine (rparse_any 3 (f * 4096) (c * 4096) 3 _ (by omega) (by omega) (by omega) (by omega) (by omega)).mono ?_
  rw [HH.out.e, HH.out.k, HH.out.f, HH.out.c, HH.out.w, HH.out.p]
  rintro e w1 ⟨rfl, hb⟩
  have F1 := Lib.hid (F0.out.mono hb)
  clear hb
  obtain ⟨⟨b0, b1, b2, b3, b4⟩, ⟨r0, r1, r2, r3⟩, ⟨s0, s1, s2, s3⟩, ⟨q0, q1, q2, q3⟩, l0, l1, l2⟩ := F1.out.all
  have lb : w.heap.size ≤ w.heap.size + 1 := by omega
  go_wp2_with fail
  refine bodyPost_ret (v := .tuple #[.agg #[.int .u64 3, .int .u64 (f * 4096), .int .u64 (c * 4096), .int .u64 3], .int .i64 0]) ?_ rfl ⟨rfl, ?_⟩
  · simp [results, Try.results15, go_sem, r0, r1, r2, r3, l0, l1, l2]
  · exact ((((F1.out.be.setCell lb _).setCell lb _).setCell lb _).setCell lb _).alloc (by have := F1.out.be.size; simp; omega) _

theorem rmake3rT (f c pc : Int) (w : World) (hf : f < 34359738368) (hc1 : 1 ≤ c) (hc2 : c ≤ 1048576) (hh : Hits 3 (f * 4096) (c * 4096) 1 3 f c false pc) (f0 : 0 ≤ f) (f1 : f ≤ 18446744073709551615) :
    Calls Try.prog 15 #[.agg #[.int .i8 3, .int .u64 f, .int .i64 c, .bool false, .int .i64 pc]] w fun e w' => e = .returned (.tuple #[.agg #[.int .u64 3, .int .u64 (f * 4096), .int .u64 (c * 4096), .int .u64 1], .int .i64 0]) ∧ Below w.heap.size w w' := by
  have F0 := Lib.hid (Mf.start w 3 f c false pc 3 (f * 4096) (c * 4096) 1)
  have HH := Lib.hid hh
  clear hh
  have u1 : decide (34359738368 ≤ f) = false := by simp; omega
  have u2 : decide (c < 1) = false := by simp; omega
  have u3 : decide (1048576 < c) = false := by simp; omega
  go_enter Try.func15, Try.ntmps15
  go_wp2_with fail
  refine (rparse_any 3 (f * 4096) (c * 4096) 1 _ (by omega) (by omega) (by omega) (by omega) (by omega)).mono ?_
  rw [HH.out.e, HH.out.k, HH.out.f, HH.out.c, HH.out.w, HH.out.p]
  rintro e w1 ⟨rfl, hb⟩
  have F1 := Lib.hid (F0.out.mono hb)
  clear hb
  obtain ⟨⟨b0, b1, b2, b3, b4⟩, ⟨r0, r1, r2, r3⟩, ⟨s0, s1, s2, s3⟩, ⟨q0, q1, q2, q3⟩, l0, l1, l2⟩ := F1.out.all
  have lb : w.heap.size ≤ w.heap.size + 1 := by omega
  go_wp2_with fail
  refine bodyPost_ret (v := .tuple #[.agg #[.int .u64 3, .int .u64 (f * 4096), .int .u64 (c * 4096), .int .u64 1], .int .i64 0]) ?_ rfl ⟨rfl, ?_⟩
  · simp [results, Try.results15, go_sem, r0, r1, r2, r3, l0, l1, l2]
  · exact ((((F1.out.be.setCell lb _).setCell lb _).setCell lb _).setCell lb _).alloc (by have := F1.out.be.size; simp; omega) _

theorem rmake2T (f c pc : Int) (wr : Bool) (w : World) (hf : f < 34359738368) (hc1 : 1 ≤ c) (hc2 : c ≤ 1048576) (hh : Hits 2 (f * 4096) (c * 4096) 0 2 f c wr pc) (f0 : 0 ≤ f) (f1 : f ≤ 18446744073709551615) :
    Calls Try.prog 15 #[.agg #[.int .i8 2, .int .u64 f, .int .i64 c, .bool wr, .int .i64 pc]] w fun e w' => e = .returned (.tuple #[.agg #[.int .u64 2, .int .u64 (f * 4096), .int .u64 (c * 4096), .int .u64 0], .int .i64 0]) ∧ Below w.heap.size w w' := by
  have F0 := Lib.hid (Mf.start w 2 f c wr pc 2 (f * 4096) (c * 4096) 0)
  have HH := Lib.hid hh
  clear hh
  have u1 : decide (34359738368 ≤ f) = false := by simp; omega
  have u2 : decide (c < 1) = false := by simp; omega
  have u3 : decide (1048576 < c) = false := by simp; omega
  go_enter Try.func15, Try.ntmps15
  go_wp2_with fail
  refine (rparse_any 2 (f * 4096) (c * 4096) 0 _ (by omega) (by omega) (by omega) (by omega) (by omega)).mono ?_
  rw [HH.out.e, HH.out.k, HH.out.f, HH.out.c, HH.out.w, HH.out.p]
  rintro e w1 ⟨rfl, hb⟩
  have F1 := Lib.hid (F0.out.mono hb)
  clear hb
  obtain ⟨⟨b0, b1, b2, b3, b4⟩, ⟨r0, r1, r2, r3⟩, ⟨s0, s1, s2, s3⟩, ⟨q0, q1, q2, q3⟩, l0, l1, l2⟩ := F1.out.all
  have lb : w.heap.size ≤ w.heap.size + 1 := by omega
  go_wp2_with fail
  refine bodyPost_ret (v := .tuple #[.agg #[.int .u64 2, .int .u64 (f * 4096), .int .u64 (c * 4096), .int .u64 0], .int .i64 0]) ?_ rfl ⟨rfl, ?_⟩
  · simp [results, Try.results15, go_sem, r0, r1, r2, r3, l0, l1, l2]
  · exact ((((F1.out.be.setCell lb _).setCell lb _).setCell lb _).setCell lb _).alloc (by have := F1.out.be.size; simp; omega) _

theorem rmake4T (f c pc : Int) (wr : Bool) (w : World)  (hh : Hits 4 0 0 0 4 f c wr pc) (f0 : 0 ≤ f) (f1 : f ≤ 18446744073709551615) :
    Calls Try.prog 15 #[.agg #[.int .i8 4, .int .u64 f, .int .i64 c, .bool wr, .int .i64 pc]] w fun e w' => e = .returned (.tuple #[.agg #[.int .u64 4, .int .u64 0, .int .u64 0, .int .u64 0], .int .i64 0]) ∧ Below w.heap.size w w' := by
  have F0 := Lib.hid (Mf.start w 4 f c wr pc 4 0 0 0)
  have HH := Lib.hid hh
  clear hh
  go_enter Try.func15, Try.ntmps15
  go_wp2_with fail
  refine (rparse_any 4 0 0 0 _ (by omega) (by omega) (by omega) (by omega) (by omega)).mono ?_
  rw [HH.out.e, HH.out.k, HH.out.f, HH.out.c, HH.out.w, HH.out.p]
  rintro e w1 ⟨rfl, hb⟩
  have F1 := Lib.hid (F0.out.mono hb)
  clear hb
  obtain ⟨⟨b0, b1, b2, b3, b4⟩, ⟨r0, r1, r2, r3⟩, ⟨s0, s1, s2, s3⟩, ⟨q0, q1, q2, q3⟩, l0, l1, l2⟩ := F1.out.all
  have lb : w.heap.size ≤ w.heap.size + 1 := by omega
  go_wp2_with fail
  refine bodyPost_ret (v := .tuple #[.agg #[.int .u64 4, .int .u64 0, .int .u64 0, .int .u64 0], .int .i64 0]) ?_ rfl ⟨rfl, ?_⟩
  · simp [results, Try.results15, go_sem, r0, r1, r2, r3, l0, l1, l2]
  · exact ((((F1.out.be.setCell lb _).setCell lb _).setCell lb _).setCell lb _).alloc (by have := F1.out.be.size; simp; omega) _

theorem rmake5T (f c pc : Int) (wr : Bool) (w : World)  (hh : Hits 5 0 0 0 5 f c wr pc) (f0 : 0 ≤ f) (f1 : f ≤ 18446744073709551615) :
    Calls Try.prog 15 #[.agg #[.int .i8 5, .int .u64 f, .int .i64 c, .bool wr, .int .i64 pc]] w fun e w' => e = .returned (.tuple #[.agg #[.int .u64 5, .int .u64 0, .int .u64 0, .int .u64 0], .int .i64 0]) ∧ Below w.heap.size w w' := by
  have F0 := Lib.hid (Mf.start w 5 f c wr pc 5 0 0 0)
  have HH := Lib.hid hh
  clear hh
  go_enter Try.func15, Try.ntmps15
  go_wp2_with fail
  refine (rparse_any 5 0 0 0 _ (by omega) (by omega) (by omega) (by omega) (by omega)).mono ?_
  rw [HH.out.e, HH.out.k, HH.out.f, HH.out.c, HH.out.w, HH.out.p]
  rintro e w1 ⟨rfl, hb⟩
  have F1 := Lib.hid (F0.out.mono hb)
  clear hb
  obtain ⟨⟨b0, b1, b2, b3, b4⟩, ⟨r0, r1, r2, r3⟩, ⟨s0, s1, s2, s3⟩, ⟨q0, q1, q2, q3⟩, l0, l1, l2⟩ := F1.out.all
  have lb : w.heap.size ≤ w.heap.size + 1 := by omega
  go_wp2_with fail
  refine bodyPost_ret (v := .tuple #[.agg #[.int .u64 5, .int .u64 0, .int .u64 0, .int .u64 0], .int .i64 0]) ?_ rfl ⟨rfl, ?_⟩
  · simp [results, Try.results15, go_sem, r0, r1, r2, r3, l0, l1, l2]
  · exact ((((F1.out.be.setCell lb _).setCell lb _).setCell lb _).setCell lb _).alloc (by have := F1.out.be.size; simp; omega) _

theorem rmake6T (f c pc : Int) (wr : Bool) (w : World)  (hh : Hits 6 0 0 0 6 f c wr pc) (f0 : 0 ≤ f) (f1 : f ≤ 18446744073709551615) :
    Calls Try.prog 15 #[.agg #[.int .i8 6, .int .u64 f, .int .i64 c, .bool wr, .int .i64 pc]] w fun e w' => e = .returned (.tuple #[.agg #[.int .u64 6, .int .u64 0, .int .u64 0, .int .u64 0], .int .i64 0]) ∧ Below w.heap.size w w' := by
  have F0 := Lib.hid (Mf.start w 6 f c wr pc 6 0 0 0)
  have HH := Lib.hid hh
  clear hh
  go_enter Try.func15, Try.ntmps15
  go_wp2_with fail
  refine (rparse_any 6 0 0 0 _ (by omega) (by omega) (by omega) (by omega) (by omega)).mono ?_
  rw [HH.out.e, HH.out.k, HH.out.f, HH.out.c, HH.out.w, HH.out.p]
  rintro e w1 ⟨rfl, hb⟩
  have F1 := Lib.hid (F0.out.mono hb)
  clear hb
  obtain ⟨⟨b0, b1, b2, b3, b4⟩, ⟨r0, r1, r2, r3⟩, ⟨s0, s1, s2, s3⟩, ⟨q0, q1, q2, q3⟩, l0, l1, l2⟩ := F1.out.all
  have lb : w.heap.size ≤ w.heap.size + 1 := by omega
  go_wp2_with fail
  refine bodyPost_ret (v := .tuple #[.agg #[.int .u64 6, .int .u64 0, .int .u64 0, .int .u64 0], .int .i64 0]) ?_ rfl ⟨rfl, ?_⟩
  · simp [results, Try.results15, go_sem, r0, r1, r2, r3, l0, l1, l2]
  · exact ((((F1.out.be.setCell lb _).setCell lb _).setCell lb _).setCell lb _).alloc (by have := F1.out.be.size; simp; omega) _

theorem rmake7T (f c pc : Int) (wr : Bool) (w : World) (hp : 0 ≤ pc) (hp1 : pc ≤ 9223372036854775807) (hh : Hits 7 pc 0 0 7 f c wr pc) (f0 : 0 ≤ f) (f1 : f ≤ 18446744073709551615) :
    Calls Try.prog 15 #[.agg #[.int .i8 7, .int .u64 f, .int .i64 c, .bool wr, .int .i64 pc]] w fun e w' => e = .returned (.tuple #[.agg #[.int .u64 7, .int .u64 pc, .int .u64 0, .int .u64 0], .int .i64 0]) ∧ Below w.heap.size w w' := by
  have F0 := Lib.hid (Mf.start w 7 f c wr pc 7 pc 0 0)
  have HH := Lib.hid hh
  clear hh
  have u1 : decide (pc < 0) = false := by simp; omega
  go_enter Try.func15, Try.ntmps15
  go_wp2_with fail
  refine (rparse_any 7 pc 0 0 _ (by omega) (by omega) (by omega) (by omega) (by omega)).mono ?_
  rw [HH.out.e, HH.out.k, HH.out.f, HH.out.c, HH.out.w, HH.out.p]
  rintro e w1 ⟨rfl, hb⟩
  have F1 := Lib.hid (F0.out.mono hb)
  clear hb
  obtain ⟨⟨b0, b1, b2, b3, b4⟩, ⟨r0, r1, r2, r3⟩, ⟨s0, s1, s2, s3⟩, ⟨q0, q1, q2, q3⟩, l0, l1, l2⟩ := F1.out.all
  have lb : w.heap.size ≤ w.heap.size + 1 := by omega
  go_wp2_with fail
  refine bodyPost_ret (v := .tuple #[.agg #[.int .u64 7, .int .u64 pc, .int .u64 0, .int .u64 0], .int .i64 0]) ?_ rfl ⟨rfl, ?_⟩
  · simp [results, Try.results15, go_sem, r0, r1, r2, r3, l0, l1, l2]
  · exact ((((F1.out.be.setCell lb _).setCell lb _).setCell lb _).setCell lb _).alloc (by have := F1.out.be.size; simp; omega) _

end Go.Proofs.Ytgfnefcgpdkljaa
