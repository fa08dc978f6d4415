/- Statement CallReads of layer 21: the law returns true at every input, and every argument reads as before. No conditions. -/
import Derived.Test.YtgfnefcgpdkljaaB13
import Derived.Test.YtgfnefcgpdkljaaShape
namespace Go.Proofs.Ytgfnefcgpdkljaa
open Go.ChangeShapes Go.WideShapes Go.ChangeAt Go.RowKit
set_option linter.unusedVariables false

theorem eq23 (a b c : Int) (w : World) : (Op.equalIn 9999 23 (.agg #[.int .u64 a, .int .u64 b, .int .u64 c]) (.agg #[.int .u64 a, .int .u64 b, .int .u64 c])).run Try.prog w = .ok true w := by
  obtain ⟨i, hi⟩ : ∃ i, Try.prog.info? 22 = some i ∧ i.size = 1 := by
    have : (Try.prog.info? 22).map (·.size) = some 1 := by kernel_rfl
    simpa [Option.map_eq_some_iff] using this
  rw [run_equalIn_array w 9998 _ _ Try.underlying23 hi.1]
  have p0 : ∀ (x y z : Value) (w : World), (part 22 #[x, y, z] 0).run Try.prog w = .ok x w := fun _ _ _ _ => by kernel_rfl
  have p1 : ∀ (x y z : Value) (w : World), (part 22 #[x, y, z] 1).run Try.prog w = .ok y w := fun _ _ _ _ => by kernel_rfl
  have p2 : ∀ (x y z : Value) (w : World), (part 22 #[x, y, z] 2).run Try.prog w = .ok z w := fun _ _ _ _ => by kernel_rfl
  have hc : Try.prog.cellsOf 22 = 1 := by kernel_rfl
  have he : ∀ (x : Int) (w : World), (Op.equalIn 9998 22 (.int .u64 x) (.int .u64 x)).run Try.prog w = .ok true w := fun x w => by
    rw [run_equalIn_int w 9997 22 .u64 .u64 x x Try.underlying22]; simp
  rw [hc]
  simp [List.range, List.range.loop, Op.eqItems, p0, p1, p2, he]

theorem hp_below {W W1 : World} {i : Nat} {o : Obj} (h : W.heap[i]? = some o) (hb : Below W.heap.size W W1) : W1.heap[i]? = some o := (hb.block _ (lt_of_block h)).trans h
theorem hp_alloc {W : World} {i : Nat} {o : Obj} (h : W.heap[i]? = some o) (x : Obj) : (W.alloc x).heap[i]? = some o := (Below.heap_alloc _ _ _ (lt_of_block h)).trans h
theorem hp_two (w : World) (x y : Obj) : ((w.alloc x).alloc y).heap[w.heap.size]? = some x ∧ ((w.alloc x).alloc y).heap[w.heap.size + 1]? = some y := by
  refine ⟨hp_alloc (heap_alloc_new _ _) _, ?_⟩
  have := heap_alloc_new (w.alloc x) y
  rwa [World.size_alloc] at this

set_option maxHeartbeats 1000000 in
theorem reads_walkT (nu a0 a1 a2 k f cc : Int) (wr : Bool) (pc : Int) (w : World) (hh : HitsM k f cc wr pc) (h0 : 0 ≤ nu) (c0 : 0 ≤ a0) (c1 : a0 ≤ 18446744073709551615) (d0 : 0 ≤ a1) (d1 : a1 ≤ 18446744073709551615) (f0 : 0 ≤ f) (f1 : f ≤ 18446744073709551615) (p1 : pc ≤ 9223372036854775807) :
    Calls Try.prog 5 #[.agg #[.int .u64 nu, .int .u64 a0, .int .u64 a1, .int .u64 a2], .agg #[.int .i8 k, .int .u64 f, .int .i64 cc, .bool wr, .int .i64 pc]] w fun e w' => e = .returned (.bool true) ∧ Below w.heap.size w w' := by
  have HH := Lib.hid hh
  clear hh
  have B0 := Lib.hid (((Below.refl w.heap.size w).alloc (Nat.le_refl _) (.cells #[.int .u64 nu, .int .u64 a0, .int .u64 a1, .int .u64 a2] 25)).alloc (by simp) (.cells #[.int .i8 k, .int .u64 f, .int .i64 cc, .bool wr, .int .i64 pc] 28))
  have hc := hp_two w (.cells #[.int .u64 nu, .int .u64 a0, .int .u64 a1, .int .u64 a2] 25) (.cells #[.int .i8 k, .int .u64 f, .int .i64 cc, .bool wr, .int .i64 pc] 28)
  have HC0 := Lib.hid hc.1; have HR0 := Lib.hid hc.2
  clear hc
  go_enter Try.func5, Try.ntmps5
  go_wp2_with fail
  refine (parse_any nu a0 a1 a2 _ h0 c0 c1 d0 d1).mono ?_
  rintro e w1 ⟨rfl, hb⟩
  have B1 := Lib.hid (B0.out.trans (hb.mono B0.out.size))
  have HC1 := Lib.hid (hp_below HC0.out hb); have HR1 := Lib.hid (hp_below HR0.out hb)
  clear hb HC0 HR0 B0
  obtain ⟨k0, k1, k2, k3⟩ := cells4 HC1.out
  have l1 := lt_of_block HC1.out
  go_wp2_with fail
  refine (rparse_any nu a0 a1 a2 _ h0 c0 c1 d0 d1).mono ?_
  rintro e w2 ⟨rfl, hb⟩
  have b2 := B1.out.alloc B1.out.size (.cells #[.int .i8 (pK nu a0 a1 a2), .int .u64 (pF nu a0 a1 a2), .int .i64 (pC nu a0 a1 a2), .bool (pW nu a0 a1 a2), .int .i64 (pP nu a0 a1 a2)] 28)
  have B2 := Lib.hid (b2.trans (hb.mono b2.size))
  have HR2 := Lib.hid (hp_below (hp_alloc HR1.out _) hb)
  have HA2 := Lib.hid (hp_below (heap_alloc_new w1 (.cells #[.int .i8 (pK nu a0 a1 a2), .int .u64 (pF nu a0 a1 a2), .int .i64 (pC nu a0 a1 a2), .bool (pW nu a0 a1 a2), .int .i64 (pP nu a0 a1 a2)] 28)) hb)
  clear hb HC1 HR1 B1 k0 k1 k2 k3 l1 b2
  obtain ⟨k0, k1, k2, k3, k4⟩ := cells5 HR2.out
  have l1 := lt_of_block HR2.out
  go_wp2_with fail
  refine (make_T k f cc pc wr _ f0 f1 HH.out).mono ?_
  rintro e w3 ⟨rfl, hb⟩
  have b3 := B2.out.alloc B2.out.size (.cells #[.int .i8 (pK nu a0 a1 a2), .int .u64 (pF nu a0 a1 a2), .int .i64 (pC nu a0 a1 a2), .bool (pW nu a0 a1 a2), .int .i64 (pP nu a0 a1 a2)] 28)
  have B3 := Lib.hid (b3.trans (hb.mono b3.size))
  have HR3 := Lib.hid (hp_below (hp_alloc HR2.out _) hb)
  have HA3 := Lib.hid (hp_below (hp_alloc HA2.out _) hb)
  have HB3 := Lib.hid (hp_below (heap_alloc_new w2 (.cells #[.int .i8 (pK nu a0 a1 a2), .int .u64 (pF nu a0 a1 a2), .int .i64 (pC nu a0 a1 a2), .bool (pW nu a0 a1 a2), .int .i64 (pP nu a0 a1 a2)] 28)) hb)
  clear hb HR2 HA2 B2 k0 k1 k2 k3 k4 l1 b3
  obtain ⟨k0, k1, k2, k3, k4⟩ := cells5 HR3.out
  have l1 := lt_of_block HR3.out
  go_wp2_with fail
  refine (rmake_T k f cc pc wr _ f0 f1 HH.out p1).mono ?_
  rintro e w4 ⟨rfl, hb⟩
  have b4 := B3.out.alloc B3.out.size (.cells #[.int .u64 (mN k), .int .u64 (mA0 k f pc), .int .u64 (mA1 k cc), .int .u64 (mA2 k wr)] 25)
  have B4 := Lib.hid (b4.trans (hb.mono b4.size))
  have HA4 := Lib.hid (hp_below (hp_alloc HA3.out _) hb)
  have HB4 := Lib.hid (hp_below (hp_alloc HB3.out _) hb)
  have HX4 := Lib.hid (hp_below (heap_alloc_new w3 (.cells #[.int .u64 (mN k), .int .u64 (mA0 k f pc), .int .u64 (mA1 k cc), .int .u64 (mA2 k wr)] 25)) hb)
  clear hb HR3 HA3 HB3 B3 k0 k1 k2 k3 k4 l1 b4
  obtain ⟨x0, x1, x2, x3, x4⟩ := cells5 HA4.out
  obtain ⟨y0, y1, y2, y3, y4⟩ := cells5 HB4.out
  obtain ⟨z0, z1, z2, z3⟩ := cells4 HX4.out
  have l1 := lt_of_block HA4.out
  have l2 := lt_of_block HB4.out
  have l3 := lt_of_block HX4.out
  have e23 := eq23
  go_wp2_with fail
  refine (wakes_ok _).mono ?_
  rintro e w5 ⟨rfl, hb⟩
  have b5 := B4.out.alloc B4.out.size (.cells #[.int .u64 (mN k), .int .u64 (mA0 k f pc), .int .u64 (mA1 k cc), .int .u64 (mA2 k wr)] 25)
  have B5 := Lib.hid (b5.trans (hb.mono b5.size))
  clear hb b5
  go_wp2_with fail
  go_ret
  exact ⟨rfl, B5.out⟩

set_option maxHeartbeats 1000000 in
theorem reads_walkF (nu a0 a1 a2 k f cc : Int) (wr : Bool) (pc : Int) (w : World) (hh : ¬ HitsM k f cc wr pc) (h0 : 0 ≤ nu) (c0 : 0 ≤ a0) (c1 : a0 ≤ 18446744073709551615) (d0 : 0 ≤ a1) (d1 : a1 ≤ 18446744073709551615) (f0 : 0 ≤ f) (f1 : f ≤ 18446744073709551615) (p1 : pc ≤ 9223372036854775807) :
    Calls Try.prog 5 #[.agg #[.int .u64 nu, .int .u64 a0, .int .u64 a1, .int .u64 a2], .agg #[.int .i8 k, .int .u64 f, .int .i64 cc, .bool wr, .int .i64 pc]] w fun e w' => e = .returned (.bool true) ∧ Below w.heap.size w w' := by
  have HH := Lib.hid hh
  clear hh
  have B0 := Lib.hid (((Below.refl w.heap.size w).alloc (Nat.le_refl _) (.cells #[.int .u64 nu, .int .u64 a0, .int .u64 a1, .int .u64 a2] 25)).alloc (by simp) (.cells #[.int .i8 k, .int .u64 f, .int .i64 cc, .bool wr, .int .i64 pc] 28))
  have hc := hp_two w (.cells #[.int .u64 nu, .int .u64 a0, .int .u64 a1, .int .u64 a2] 25) (.cells #[.int .i8 k, .int .u64 f, .int .i64 cc, .bool wr, .int .i64 pc] 28)
  have HC0 := Lib.hid hc.1; have HR0 := Lib.hid hc.2
  clear hc
  go_enter Try.func5, Try.ntmps5
  go_wp2_with fail
  refine (parse_any nu a0 a1 a2 _ h0 c0 c1 d0 d1).mono ?_
  rintro e w1 ⟨rfl, hb⟩
  have B1 := Lib.hid (B0.out.trans (hb.mono B0.out.size))
  have HC1 := Lib.hid (hp_below HC0.out hb); have HR1 := Lib.hid (hp_below HR0.out hb)
  clear hb HC0 HR0 B0
  obtain ⟨k0, k1, k2, k3⟩ := cells4 HC1.out
  have l1 := lt_of_block HC1.out
  go_wp2_with fail
  refine (rparse_any nu a0 a1 a2 _ h0 c0 c1 d0 d1).mono ?_
  rintro e w2 ⟨rfl, hb⟩
  have b2 := B1.out.alloc B1.out.size (.cells #[.int .i8 (pK nu a0 a1 a2), .int .u64 (pF nu a0 a1 a2), .int .i64 (pC nu a0 a1 a2), .bool (pW nu a0 a1 a2), .int .i64 (pP nu a0 a1 a2)] 28)
  have B2 := Lib.hid (b2.trans (hb.mono b2.size))
  have HR2 := Lib.hid (hp_below (hp_alloc HR1.out _) hb)
  have HA2 := Lib.hid (hp_below (heap_alloc_new w1 (.cells #[.int .i8 (pK nu a0 a1 a2), .int .u64 (pF nu a0 a1 a2), .int .i64 (pC nu a0 a1 a2), .bool (pW nu a0 a1 a2), .int .i64 (pP nu a0 a1 a2)] 28)) hb)
  clear hb HC1 HR1 B1 k0 k1 k2 k3 l1 b2
  obtain ⟨k0, k1, k2, k3, k4⟩ := cells5 HR2.out
  have l1 := lt_of_block HR2.out
  go_wp2_with fail
  refine (make_F k f cc pc wr _ f0 f1 HH.out).mono ?_
  rintro e w3 ⟨rfl, hb⟩
  have b3 := B2.out.alloc B2.out.size (.cells #[.int .i8 (pK nu a0 a1 a2), .int .u64 (pF nu a0 a1 a2), .int .i64 (pC nu a0 a1 a2), .bool (pW nu a0 a1 a2), .int .i64 (pP nu a0 a1 a2)] 28)
  have B3 := Lib.hid (b3.trans (hb.mono b3.size))
  have HR3 := Lib.hid (hp_below (hp_alloc HR2.out _) hb)
  have HA3 := Lib.hid (hp_below (hp_alloc HA2.out _) hb)
  have HB3 := Lib.hid (hp_below (heap_alloc_new w2 (.cells #[.int .i8 (pK nu a0 a1 a2), .int .u64 (pF nu a0 a1 a2), .int .i64 (pC nu a0 a1 a2), .bool (pW nu a0 a1 a2), .int .i64 (pP nu a0 a1 a2)] 28)) hb)
  clear hb HR2 HA2 B2 k0 k1 k2 k3 k4 l1 b3
  obtain ⟨k0, k1, k2, k3, k4⟩ := cells5 HR3.out
  have l1 := lt_of_block HR3.out
  go_wp2_with fail
  refine (rmake_F k f cc pc wr _ f0 f1 HH.out p1).mono ?_
  rintro e w4 ⟨rfl, hb⟩
  have b4 := B3.out.alloc B3.out.size (.cells #[.int .u64 0, .int .u64 0, .int .u64 0, .int .u64 0] 25)
  have B4 := Lib.hid (b4.trans (hb.mono b4.size))
  have HA4 := Lib.hid (hp_below (hp_alloc HA3.out _) hb)
  have HB4 := Lib.hid (hp_below (hp_alloc HB3.out _) hb)
  have HX4 := Lib.hid (hp_below (heap_alloc_new w3 (.cells #[.int .u64 0, .int .u64 0, .int .u64 0, .int .u64 0] 25)) hb)
  clear hb HR3 HA3 HB3 B3 k0 k1 k2 k3 k4 l1 b4
  obtain ⟨x0, x1, x2, x3, x4⟩ := cells5 HA4.out
  obtain ⟨y0, y1, y2, y3, y4⟩ := cells5 HB4.out
  obtain ⟨z0, z1, z2, z3⟩ := cells4 HX4.out
  have l1 := lt_of_block HA4.out
  have l2 := lt_of_block HB4.out
  have l3 := lt_of_block HX4.out
  have e23 := eq23
  go_wp2_with fail
  refine (wakes_ok _).mono ?_
  rintro e w5 ⟨rfl, hb⟩
  have b5 := B4.out.alloc B4.out.size (.cells #[.int .u64 0, .int .u64 0, .int .u64 0, .int .u64 0] 25)
  have B5 := Lib.hid (b5.trans (hb.mono b5.size))
  clear hb b5
  go_wp2_with fail
  go_ret
  exact ⟨rfl, B5.out⟩

namespace callReads
theorem laid : laidOutB Try.prog = true := by kernel_rfl
theorem own : ownKnob Try.prog.godebug = none := by kernel_rfl
theorem lifted (os : Os) (started : os.Started) (H : Type) (enc : TypeId × Value → H) :
    ReturnsInHanded {} Try.checked os 5 .any (Rows.callReadsSpec.pre6 enc Try.prog Try.f5 Rows.callReadsRow.domain false) (Rows.callReadsSpec.post enc Try.prog Try.f5 false true false false) := by
  refine returnsInHanded_of_change (C := Try.checked) own started (by kernel_rfl) Try.func5
    (ChangeSpec.witness6 (enc := enc) (C := Try.checked) false ⟨#[], #[.agg #[.int .u64 0, .int .u64 0, .int .u64 0, .int .u64 0], .agg #[.int .i8 0, .int .u64 0, .int .i64 0, .bool false, .int .i64 0]], []⟩ 8 (by kernel_rfl) (by kernel_rfl) (by kernel_rfl) (by kernel_rfl)) ?_
  intro W base args ds gs before hval0 hW hcnd _
  have hval : ∀ (j : Nat) t v, Try.f5.params[j]? = some t → args[j]? = some v → Value.okWide Try.prog W .any base t v := hval0
  have hW' := hW
  obtain ⟨p, q, hA0, hV, rfl, hfz, hnd⟩ := hW
  have hA : DataW.TrodAll enc Try.prog W 0 (fun _ => true) true Try.f5.params.toList args.toList ds p := hA0
  rw [Try.params5] at hA hval
  obtain ⟨v0, vs0, d0, ds0, p0, q0, hargs, rfl, rfl, h0, r0⟩ := trodAll_cons hA
  obtain ⟨v1, vs1, d1, ds1, p1, q1, rfl, rfl, rfl, h1, r1⟩ := trodAll_cons r0
  obtain ⟨rfl, rfl, rfl⟩ := trodAll_nil r1
  obtain rfl : args = #[v0, v1] := by cases args; simp_all
  obtain ⟨rfl, rfl⟩ := trodVars_none hV
  obtain ⟨fuel0, hf0⟩ := h0
  obtain ⟨fuel1, hf1⟩ := h1
  obtain ⟨nu, a, b, c, hc, x0, x1, x2, x3⟩ := call_cells hf0
  obtain ⟨k, f, cc, wr, pc, ho, y0, y1, y2, y3⟩ := req_cells hf1
  obtain rfl := agg_of Try.underlying25 (hval 0 25 v0 rfl rfl) hc
  obtain rfl := agg_of Try.underlying28 (hval 1 28 v1 rfl rfl) ho
  have fin : Calls Try.prog 5 #[.agg #[.int .u64 nu, .int .u64 a, .int .u64 b, .int .u64 c], .agg #[.int .i8 k, .int .u64 f, .int .i64 cc, .bool wr, .int .i64 pc]] W fun e w' => e = .returned (.bool true) ∧ Below W.heap.size W w' := by
    by_cases hh : HitsM k f cc wr pc
    · exact reads_walkT nu a b c k f cc wr pc W hh (Go.bounds_u64 x0).1 (Go.bounds_u64 x1).1 (Go.bounds_u64 x1).2 (Go.bounds_u64 x2).1 (Go.bounds_u64 x2).2 (Go.bounds_u64 y1).1 (Go.bounds_u64 y1).2 (Go.bounds_i64 y3).2
    · exact reads_walkF nu a b c k f cc wr pc W hh (Go.bounds_u64 x0).1 (Go.bounds_u64 x1).1 (Go.bounds_u64 x1).2 (Go.bounds_u64 x2).1 (Go.bounds_u64 x2).2 (Go.bounds_u64 y1).1 (Go.bounds_u64 y1).2 (Go.bounds_i64 y3).2
  refine fin.mono fun e W' ⟨he, hg⟩ => ?_
  subst he
  exact ⟨_, rfl, law_post laid hW' rfl (by decide +kernel) rfl rfl Try.underlying4 hg⟩

theorem over : Rows.callReadsRow.holds Try.pinned (OpenSpec.ofChange Rows.callReadsSpec) :=
  OpenClaim.holds_of_wide 5 Try.f5 rfl rfl rfl rfl rfl rfl rfl ⟨rfl, rfl, rfl, rfl, rfl⟩ rfl rfl rfl rfl rfl (by kernel_rfl) Try.func5 (by kernel_rfl)
    (of_decide_eq_true (by kernel_rfl)) (by unfold Func.isWrapper; first | (rw [if_pos (by decide +kernel)]; kernel_rfl) | (rw [if_neg (by decide +kernel)]; exact ⟨rfl, rfl⟩))
    (fun os started H enc _ => lifted os started H enc)
end callReads

/-- THE STATEMENT. -/
theorem callReads_proved : Rows.CallReadsSaid := callReads.over
#print axioms callReads_proved
end Go.Proofs.Ytgfnefcgpdkljaa
