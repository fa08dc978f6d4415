/- Statement CallBack of layer 21: the law returns true at every input, and every argument reads as before. No conditions. -/
import Derived.Test.YtgfnefcgpdkljaaReads
import Derived.Test.YtgfnefcgpdkljaaB6
namespace Go.Proofs.Ytgfnefcgpdkljaa
open Go.ChangeShapes Go.WideShapes Go.ChangeAt Go.RowKit
set_option linter.unusedVariables false
set_option linter.unusedSimpArgs false

theorem below_drewN {B : Nat} {a w : World} (h : Below B a w) (n : Nat) : Below B a (w.drewN n) := ⟨h.os, h.tape, h.output, h.size, h.block⟩
theorem back_bad (n e : Int) (h : e = 210 ∨ e = 211 ∨ e = 20) : rdN (resW n e) = 0 ∧ rdE (resW n e) = e := by
  rcases h with rfl | rfl | rfl <;> simp [resW, rdN, rdE]
theorem back_ok (n : Int) (h0 : 0 ≤ n) (h1 : n ≤ 2147483648) : rdN (resW n 0) = n ∧ rdE (resW n 0) = 0 := by
  have : resW n 0 = n := by simp [resW]; omega
  rw [this]
  simp [rdN, rdE, h1]
theorem resW_bd (n e : Int) (h : n ≤ 9223372036854775807) : 0 ≤ resW n e ∧ resW n e ≤ 18446744073709551615 := by
  simp only [resW]; repeat (split <;> try omega)

theorem mbounds (k f cc pc : Int) : 0 ≤ mN k ∧ 0 ≤ mA0 k f pc ∧ mA0 k f pc ≤ 18446744073709551615 ∧ 0 ≤ mA1 k cc ∧ mA1 k cc ≤ 18446744073709551615 := by
  have b0 := u64_bd (f * 4096)
  have b1 := u64_bd (IntKind.u64.wrap cc * 4096)
  have b2 := u64_bd pc
  refine ⟨?_, ?_, ?_, ?_, ?_⟩
  · unfold mN; split <;> omega
  · unfold mA0; split
    · exact b0.1
    · split
      · exact b2.1
      · omega
  · unfold mA0; split
    · exact b0.2
    · split
      · exact b2.2
      · omega
  · unfold mA1; split
    · exact b1.1
    · omega
  · unfold mA1; split
    · exact b1.2
    · omega

set_option maxHeartbeats 2000000 in
set_option maxRecDepth 100000 in
theorem back_T_1 (a0 a1 a2 k f cc : Int) (wr : Bool) (pc n : Int) (w : World) (hh : HitsM k f cc wr pc) (ho : pOk 1 a0 a1 a2 = true) (h0 : (0 : Int) ≤ 1) (c0 : 0 ≤ a0) (c1 : a0 ≤ 18446744073709551615) (d0 : 0 ≤ a1) (d1 : a1 ≤ 18446744073709551615) (f0 : 0 ≤ f) (f1 : f ≤ 18446744073709551615) (p1 : pc ≤ 9223372036854775807) (hn : n ≤ 9223372036854775807) :
    Calls Try.prog 6 #[.agg #[.int .u64 1, .int .u64 a0, .int .u64 a1, .int .u64 a2], .agg #[.int .i8 k, .int .u64 f, .int .i64 cc, .bool wr, .int .i64 pc], .int .i64 n] w fun e w' => e = .returned (.bool true) ∧ Below w.heap.size w w' := by
  have HH := Lib.hid hh; have HO := Lib.hid ho
  clear hh ho
  have B0 := Lib.hid (((Below.refl w.heap.size w).alloc (Nat.le_refl _) (.cells #[.int .u64 1, .int .u64 a0, .int .u64 a1, .int .u64 a2] 25)).alloc (by simp) (.cells #[.int .i8 k, .int .u64 f, .int .i64 cc, .bool wr, .int .i64 pc] 28))
  have hc := hp_two w (.cells #[.int .u64 1, .int .u64 a0, .int .u64 a1, .int .u64 a2] 25) (.cells #[.int .i8 k, .int .u64 f, .int .i64 cc, .bool wr, .int .i64 pc] 28)
  have HC0 := Lib.hid hc.1; have HR0 := Lib.hid hc.2
  clear hc
  go_enter Try.func6, Try.ntmps6
  go_wp2_with fail
  refine (make_T k f cc pc wr _ f0 f1 HH.out).mono ?_
  rintro e w1 ⟨rfl, hb⟩
  have B1 := Lib.hid (B0.out.trans (hb.mono B0.out.size))
  have HC1 := Lib.hid (hp_below HC0.out hb); have HR1 := Lib.hid (hp_below HR0.out hb)
  clear hb HC0 HR0 B0
  go_wp2_with fail
  have hbd : 0 ≤ mN k ∧ 0 ≤ mA0 k f pc ∧ mA0 k f pc ≤ 18446744073709551615 ∧ 0 ≤ mA1 k cc ∧ mA1 k cc ≤ 18446744073709551615 := mbounds k f cc pc
  refine (parse_any (mN k) (mA0 k f pc) (mA1 k cc) (mA2 k wr) _ hbd.1 hbd.2.1 hbd.2.2.1 hbd.2.2.2.1 hbd.2.2.2.2).mono ?_
  have hits : Hits (mN k) (mA0 k f pc) (mA1 k cc) (mA2 k wr) k f cc wr pc := HH.out
  rw [hits.e, hits.k, hits.f, hits.c, hits.w, hits.p]
  clear hits hbd
  rintro e w2 ⟨rfl, hb⟩
  have b2 := B1.out.alloc B1.out.size (.cells #[.int .u64 (mN k), .int .u64 (mA0 k f pc), .int .u64 (mA1 k cc), .int .u64 (mA2 k wr)] 25)
  have B2 := Lib.hid (b2.trans (hb.mono b2.size))
  have HC2 := Lib.hid (hp_below (hp_alloc HC1.out _) hb)
  have HR2 := Lib.hid (hp_below (hp_alloc HR1.out _) hb)
  clear hb HC1 HR1 B1 b2
  obtain ⟨r0, r1, r2, r3, r4⟩ := cells5 HR2.out
  obtain ⟨k0, k1, k2, k3⟩ := cells4 HC2.out
  have l1 := lt_of_block HR2.out
  have l2 := lt_of_block HC2.out
  go_wp2_with fail
  refine (parse_any 1 a0 a1 a2 _ h0 c0 c1 d0 d1).mono ?_
  have q1 : pK 1 a0 a1 a2 = 1 := by simp [pK, HO.out]
  have q2 : pF 1 a0 a1 a2 = a0 / 4096 := by simp [pF, HO.out]
  have q3 : pC 1 a0 a1 a2 = min (a1 / 4096) 1048576 := by simp [pC, HO.out]
  have q4 : pE 1 a0 a1 a2 = 0 := by simp [pE, HO.out]
  rw [q1, q2, q3, q4]
  clear q1 q2 q3 q4
  generalize pW 1 a0 a1 a2 = yw
  generalize pP 1 a0 a1 a2 = yp
  obtain ⟨g1, g2, g3, g4, g5⟩ := lenB_true (pOk_len HO.out (by omega))
  have z1 : (a0 % 4096 != 0) = false := by simpa using g1
  have z2 : (a1 % 4096 != 0) = false := by simpa using g2
  have hm : 1 ≤ min (a1 / 4096) 1048576 ∧ min (a1 / 4096) 1048576 ≤ a1 / 4096 ∧ min (a1 / 4096) 1048576 ≤ 1048576 := by omega
  generalize min (a1 / 4096) 1048576 = mm at *
  obtain ⟨m1, m2, m3⟩ := hm
  have z3 : (a1 / 4096 == 0) = false := by simp; omega
  have z4 : decide (34359738368 < a1 / 4096) = false := by simp; omega
  have z5 : decide (34359738368 - a1 / 4096 < a0 / 4096) = false := by simp; omega
  have z7 : decide (a1 / 4096 < mm) = false := by simp; omega
  have z8 : decide (mm < 1) = false := by simp; omega
  have z9 : a1 / 4096 ≤ 34359738368 := by omega
  clear g1 g2
  rintro e w3 ⟨rfl, hb⟩
  have b3 := B2.out.alloc B2.out.size (.cells #[.int .i8 k, .int .u64 f, .int .i64 cc, .bool wr, .int .i64 pc] 28)
  have B3 := Lib.hid (b3.trans (hb.mono b3.size))
  have HC3 := Lib.hid (hp_below (hp_alloc HC2.out _) hb)
  clear hb B2 HC2 b3 k0 k1 k2 k3 l2 r0 r1 r2 r3 r4 l1 HR2
  obtain ⟨k0, k1, k2, k3⟩ := cells4 HC3.out
  have l2 := lt_of_block HC3.out
  go_wp2_with fail
  go_quiet (fail)
  go_wp2_with fail
  have bY := B3.out.alloc B3.out.size (.cells #[.int .i8 1, .int .u64 (a0 / 4096), .int .i64 mm, .bool yw, .int .i64 yp] 28)
  have bZ := (below_drewN bY nq).alloc (below_drewN bY nq).size (.cells #[.int .i64 210, .int .i64 211, .int .i64 20] 29)
  have BZ := Lib.hid bZ
  clear bY bZ
  refine (result_any n 0 _ hn).mono ?_
  rintro e w' ⟨rfl, rfl⟩
  go_wp2_with fail
  refine (read_any _ _ (resW_bd n 0 hn).1 (resW_bd n 0 hn).2).mono ?_
  rintro e w' ⟨rfl, rfl⟩
  go_wp2_with fail
  go_loop [133] (fun i => ∃ j : Nat, j ≤ 3 ∧ i = .int .i64 j) (fun i => 3 - (intOf i).toNat)
  case atStart => exact ⟨0, by omega, rfl⟩
  case round =>
    obtain ⟨j, hj, rfl⟩ := hrel
    have hj4 : j = 0 ∨ j = 1 ∨ j = 2 ∨ j = 3 := by omega
    rcases hj4 with rfl | rfl | rfl | rfl
    · go_wp2_with fail
      refine (result_any n 210 _ hn).mono ?_
      rintro e w' ⟨rfl, rfl⟩
      go_wp2_with fail
      refine (read_any _ _ (resW_bd n 210 hn).1 (resW_bd n 210 hn).2).mono ?_
      rw [(back_bad n 210 (by omega)).1, (back_bad n 210 (by omega)).2]
      rintro e w' ⟨rfl, rfl⟩
      go_wp2_with fail
      go_round
      case rel => exact ⟨1, by omega, rfl⟩
      case measure => simp [intOf]
    · go_wp2_with fail
      refine (result_any n 211 _ hn).mono ?_
      rintro e w' ⟨rfl, rfl⟩
      go_wp2_with fail
      refine (read_any _ _ (resW_bd n 211 hn).1 (resW_bd n 211 hn).2).mono ?_
      rw [(back_bad n 211 (by omega)).1, (back_bad n 211 (by omega)).2]
      rintro e w' ⟨rfl, rfl⟩
      go_wp2_with fail
      go_round
      case rel => exact ⟨2, by omega, rfl⟩
      case measure => simp [intOf]
    · go_wp2_with fail
      refine (result_any n 20 _ hn).mono ?_
      rintro e w' ⟨rfl, rfl⟩
      go_wp2_with fail
      refine (read_any _ _ (resW_bd n 20 hn).1 (resW_bd n 20 hn).2).mono ?_
      rw [(back_bad n 20 (by omega)).1, (back_bad n 20 (by omega)).2]
      rintro e w' ⟨rfl, rfl⟩
      go_wp2_with fail
      go_round
      case rel => exact ⟨3, by omega, rfl⟩
      case measure => simp [intOf]
    · by_cases hneg : n < 0
      · have hd1 : decide (n < 0) = true := by simpa using hneg
        go_wp2_with fail
        refine (wakes_ok _).mono ?_
        rintro e w5 ⟨rfl, hb⟩
        have B5 := Lib.hid hb
        clear hb
        go_wp2_with fail
        go_ret
        exact ⟨rfl, BZ.out.trans (B5.out.mono BZ.out.size)⟩
      · have hd1 : decide (n < 0) = false := by simpa using hneg
        by_cases hbig : 2147483648 < n
        · have hd2 : decide (2147483648 < n) = true := by simpa using hbig
          go_wp2_with fail
          refine (wakes_ok _).mono ?_
          rintro e w5 ⟨rfl, hb⟩
          have B5 := Lib.hid hb
          clear hb
          go_wp2_with fail
          go_ret
          exact ⟨rfl, BZ.out.trans (B5.out.mono BZ.out.size)⟩
        · have hd2 : decide (2147483648 < n) = false := by simpa using hbig
          have ok1 := (back_ok n (by omega) (by omega)).1
          have ok2 := (back_ok n (by omega) (by omega)).2
          go_wp2_with fail
          refine (wakes_ok _).mono ?_
          rintro e w5 ⟨rfl, hb⟩
          have B5 := Lib.hid hb
          clear hb
          go_wp2_with fail
          go_ret
          exact ⟨rfl, BZ.out.trans (B5.out.mono BZ.out.size)⟩

set_option maxHeartbeats 2000000 in
set_option maxRecDepth 100000 in
theorem back_T_2 (a0 a1 a2 k f cc : Int) (wr : Bool) (pc n : Int) (w : World) (hh : HitsM k f cc wr pc) (ho : pOk 2 a0 a1 a2 = true) (h0 : (0 : Int) ≤ 2) (c0 : 0 ≤ a0) (c1 : a0 ≤ 18446744073709551615) (d0 : 0 ≤ a1) (d1 : a1 ≤ 18446744073709551615) (f0 : 0 ≤ f) (f1 : f ≤ 18446744073709551615) (p1 : pc ≤ 9223372036854775807) (hn : n ≤ 9223372036854775807) :
    Calls Try.prog 6 #[.agg #[.int .u64 2, .int .u64 a0, .int .u64 a1, .int .u64 a2], .agg #[.int .i8 k, .int .u64 f, .int .i64 cc, .bool wr, .int .i64 pc], .int .i64 n] w fun e w' => e = .returned (.bool true) ∧ Below w.heap.size w w' := by
  have HH := Lib.hid hh; have HO := Lib.hid ho
  clear hh ho
  have B0 := Lib.hid (((Below.refl w.heap.size w).alloc (Nat.le_refl _) (.cells #[.int .u64 2, .int .u64 a0, .int .u64 a1, .int .u64 a2] 25)).alloc (by simp) (.cells #[.int .i8 k, .int .u64 f, .int .i64 cc, .bool wr, .int .i64 pc] 28))
  have hc := hp_two w (.cells #[.int .u64 2, .int .u64 a0, .int .u64 a1, .int .u64 a2] 25) (.cells #[.int .i8 k, .int .u64 f, .int .i64 cc, .bool wr, .int .i64 pc] 28)
  have HC0 := Lib.hid hc.1; have HR0 := Lib.hid hc.2
  clear hc
  go_enter Try.func6, Try.ntmps6
  go_wp2_with fail
  refine (make_T k f cc pc wr _ f0 f1 HH.out).mono ?_
  rintro e w1 ⟨rfl, hb⟩
  have B1 := Lib.hid (B0.out.trans (hb.mono B0.out.size))
  have HC1 := Lib.hid (hp_below HC0.out hb); have HR1 := Lib.hid (hp_below HR0.out hb)
  clear hb HC0 HR0 B0
  go_wp2_with fail
  have hbd : 0 ≤ mN k ∧ 0 ≤ mA0 k f pc ∧ mA0 k f pc ≤ 18446744073709551615 ∧ 0 ≤ mA1 k cc ∧ mA1 k cc ≤ 18446744073709551615 := mbounds k f cc pc
  refine (parse_any (mN k) (mA0 k f pc) (mA1 k cc) (mA2 k wr) _ hbd.1 hbd.2.1 hbd.2.2.1 hbd.2.2.2.1 hbd.2.2.2.2).mono ?_
  have hits : Hits (mN k) (mA0 k f pc) (mA1 k cc) (mA2 k wr) k f cc wr pc := HH.out
  rw [hits.e, hits.k, hits.f, hits.c, hits.w, hits.p]
  clear hits hbd
  rintro e w2 ⟨rfl, hb⟩
  have b2 := B1.out.alloc B1.out.size (.cells #[.int .u64 (mN k), .int .u64 (mA0 k f pc), .int .u64 (mA1 k cc), .int .u64 (mA2 k wr)] 25)
  have B2 := Lib.hid (b2.trans (hb.mono b2.size))
  have HC2 := Lib.hid (hp_below (hp_alloc HC1.out _) hb)
  have HR2 := Lib.hid (hp_below (hp_alloc HR1.out _) hb)
  clear hb HC1 HR1 B1 b2
  obtain ⟨r0, r1, r2, r3, r4⟩ := cells5 HR2.out
  obtain ⟨k0, k1, k2, k3⟩ := cells4 HC2.out
  have l1 := lt_of_block HR2.out
  have l2 := lt_of_block HC2.out
  go_wp2_with fail
  refine (parse_any 2 a0 a1 a2 _ h0 c0 c1 d0 d1).mono ?_
  have q1 : pK 2 a0 a1 a2 = 2 := by simp [pK, HO.out]
  have q2 : pF 2 a0 a1 a2 = a0 / 4096 := by simp [pF, HO.out]
  have q3 : pC 2 a0 a1 a2 = min (a1 / 4096) 1048576 := by simp [pC, HO.out]
  have q4 : pE 2 a0 a1 a2 = 0 := by simp [pE, HO.out]
  rw [q1, q2, q3, q4]
  clear q1 q2 q3 q4
  generalize pW 2 a0 a1 a2 = yw
  generalize pP 2 a0 a1 a2 = yp
  obtain ⟨g1, g2, g3, g4, g5⟩ := lenB_true (pOk_len HO.out (by omega))
  have z1 : (a0 % 4096 != 0) = false := by simpa using g1
  have z2 : (a1 % 4096 != 0) = false := by simpa using g2
  have hm : 1 ≤ min (a1 / 4096) 1048576 ∧ min (a1 / 4096) 1048576 ≤ a1 / 4096 ∧ min (a1 / 4096) 1048576 ≤ 1048576 := by omega
  generalize min (a1 / 4096) 1048576 = mm at *
  obtain ⟨m1, m2, m3⟩ := hm
  have z3 : (a1 / 4096 == 0) = false := by simp; omega
  have z4 : decide (34359738368 < a1 / 4096) = false := by simp; omega
  have z5 : decide (34359738368 - a1 / 4096 < a0 / 4096) = false := by simp; omega
  have z7 : decide (a1 / 4096 < mm) = false := by simp; omega
  have z8 : decide (mm < 1) = false := by simp; omega
  have z9 : a1 / 4096 ≤ 34359738368 := by omega
  clear g1 g2
  rintro e w3 ⟨rfl, hb⟩
  have b3 := B2.out.alloc B2.out.size (.cells #[.int .i8 k, .int .u64 f, .int .i64 cc, .bool wr, .int .i64 pc] 28)
  have B3 := Lib.hid (b3.trans (hb.mono b3.size))
  have HC3 := Lib.hid (hp_below (hp_alloc HC2.out _) hb)
  clear hb B2 HC2 b3 k0 k1 k2 k3 l2 r0 r1 r2 r3 r4 l1 HR2
  obtain ⟨k0, k1, k2, k3⟩ := cells4 HC3.out
  have l2 := lt_of_block HC3.out
  go_wp2_with fail
  go_quiet (fail)
  go_wp2_with fail
  have bY := B3.out.alloc B3.out.size (.cells #[.int .i8 2, .int .u64 (a0 / 4096), .int .i64 mm, .bool yw, .int .i64 yp] 28)
  have bZ := (below_drewN bY nq).alloc (below_drewN bY nq).size (.cells #[.int .i64 210, .int .i64 211, .int .i64 20] 29)
  have BZ := Lib.hid bZ
  clear bY bZ
  refine (result_any n 0 _ hn).mono ?_
  rintro e w' ⟨rfl, rfl⟩
  go_wp2_with fail
  refine (read_any _ _ (resW_bd n 0 hn).1 (resW_bd n 0 hn).2).mono ?_
  rintro e w' ⟨rfl, rfl⟩
  go_wp2_with fail
  go_loop [133] (fun i => ∃ j : Nat, j ≤ 3 ∧ i = .int .i64 j) (fun i => 3 - (intOf i).toNat)
  case atStart => exact ⟨0, by omega, rfl⟩
  case round =>
    obtain ⟨j, hj, rfl⟩ := hrel
    have hj4 : j = 0 ∨ j = 1 ∨ j = 2 ∨ j = 3 := by omega
    rcases hj4 with rfl | rfl | rfl | rfl
    · go_wp2_with fail
      refine (result_any n 210 _ hn).mono ?_
      rintro e w' ⟨rfl, rfl⟩
      go_wp2_with fail
      refine (read_any _ _ (resW_bd n 210 hn).1 (resW_bd n 210 hn).2).mono ?_
      rw [(back_bad n 210 (by omega)).1, (back_bad n 210 (by omega)).2]
      rintro e w' ⟨rfl, rfl⟩
      go_wp2_with fail
      go_round
      case rel => exact ⟨1, by omega, rfl⟩
      case measure => simp [intOf]
    · go_wp2_with fail
      refine (result_any n 211 _ hn).mono ?_
      rintro e w' ⟨rfl, rfl⟩
      go_wp2_with fail
      refine (read_any _ _ (resW_bd n 211 hn).1 (resW_bd n 211 hn).2).mono ?_
      rw [(back_bad n 211 (by omega)).1, (back_bad n 211 (by omega)).2]
      rintro e w' ⟨rfl, rfl⟩
      go_wp2_with fail
      go_round
      case rel => exact ⟨2, by omega, rfl⟩
      case measure => simp [intOf]
    · go_wp2_with fail
      refine (result_any n 20 _ hn).mono ?_
      rintro e w' ⟨rfl, rfl⟩
      go_wp2_with fail
      refine (read_any _ _ (resW_bd n 20 hn).1 (resW_bd n 20 hn).2).mono ?_
      rw [(back_bad n 20 (by omega)).1, (back_bad n 20 (by omega)).2]
      rintro e w' ⟨rfl, rfl⟩
      go_wp2_with fail
      go_round
      case rel => exact ⟨3, by omega, rfl⟩
      case measure => simp [intOf]
    · by_cases hneg : n < 0
      · have hd1 : decide (n < 0) = true := by simpa using hneg
        go_wp2_with fail
        refine (wakes_ok _).mono ?_
        rintro e w5 ⟨rfl, hb⟩
        have B5 := Lib.hid hb
        clear hb
        go_wp2_with fail
        go_ret
        exact ⟨rfl, BZ.out.trans (B5.out.mono BZ.out.size)⟩
      · have hd1 : decide (n < 0) = false := by simpa using hneg
        by_cases hbig : 2147483648 < n
        · have hd2 : decide (2147483648 < n) = true := by simpa using hbig
          go_wp2_with fail
          refine (wakes_ok _).mono ?_
          rintro e w5 ⟨rfl, hb⟩
          have B5 := Lib.hid hb
          clear hb
          go_wp2_with fail
          go_ret
          exact ⟨rfl, BZ.out.trans (B5.out.mono BZ.out.size)⟩
        · have hd2 : decide (2147483648 < n) = false := by simpa using hbig
          have ok1 := (back_ok n (by omega) (by omega)).1
          have ok2 := (back_ok n (by omega) (by omega)).2
          go_wp2_with fail
          refine (wakes_ok _).mono ?_
          rintro e w5 ⟨rfl, hb⟩
          have B5 := Lib.hid hb
          clear hb
          go_wp2_with fail
          go_ret
          exact ⟨rfl, BZ.out.trans (B5.out.mono BZ.out.size)⟩

set_option maxHeartbeats 2000000 in
set_option maxRecDepth 100000 in
theorem back_T_3 (a0 a1 a2 k f cc : Int) (wr : Bool) (pc n : Int) (w : World) (hh : HitsM k f cc wr pc) (ho : pOk 3 a0 a1 a2 = true) (h0 : (0 : Int) ≤ 3) (c0 : 0 ≤ a0) (c1 : a0 ≤ 18446744073709551615) (d0 : 0 ≤ a1) (d1 : a1 ≤ 18446744073709551615) (f0 : 0 ≤ f) (f1 : f ≤ 18446744073709551615) (p1 : pc ≤ 9223372036854775807) (hn : n ≤ 9223372036854775807) :
    Calls Try.prog 6 #[.agg #[.int .u64 3, .int .u64 a0, .int .u64 a1, .int .u64 a2], .agg #[.int .i8 k, .int .u64 f, .int .i64 cc, .bool wr, .int .i64 pc], .int .i64 n] w fun e w' => e = .returned (.bool true) ∧ Below w.heap.size w w' := by
  have HH := Lib.hid hh; have HO := Lib.hid ho
  clear hh ho
  have B0 := Lib.hid (((Below.refl w.heap.size w).alloc (Nat.le_refl _) (.cells #[.int .u64 3, .int .u64 a0, .int .u64 a1, .int .u64 a2] 25)).alloc (by simp) (.cells #[.int .i8 k, .int .u64 f, .int .i64 cc, .bool wr, .int .i64 pc] 28))
  have hc := hp_two w (.cells #[.int .u64 3, .int .u64 a0, .int .u64 a1, .int .u64 a2] 25) (.cells #[.int .i8 k, .int .u64 f, .int .i64 cc, .bool wr, .int .i64 pc] 28)
  have HC0 := Lib.hid hc.1; have HR0 := Lib.hid hc.2
  clear hc
  go_enter Try.func6, Try.ntmps6
  go_wp2_with fail
  refine (make_T k f cc pc wr _ f0 f1 HH.out).mono ?_
  rintro e w1 ⟨rfl, hb⟩
  have B1 := Lib.hid (B0.out.trans (hb.mono B0.out.size))
  have HC1 := Lib.hid (hp_below HC0.out hb); have HR1 := Lib.hid (hp_below HR0.out hb)
  clear hb HC0 HR0 B0
  go_wp2_with fail
  have hbd : 0 ≤ mN k ∧ 0 ≤ mA0 k f pc ∧ mA0 k f pc ≤ 18446744073709551615 ∧ 0 ≤ mA1 k cc ∧ mA1 k cc ≤ 18446744073709551615 := mbounds k f cc pc
  refine (parse_any (mN k) (mA0 k f pc) (mA1 k cc) (mA2 k wr) _ hbd.1 hbd.2.1 hbd.2.2.1 hbd.2.2.2.1 hbd.2.2.2.2).mono ?_
  have hits : Hits (mN k) (mA0 k f pc) (mA1 k cc) (mA2 k wr) k f cc wr pc := HH.out
  rw [hits.e, hits.k, hits.f, hits.c, hits.w, hits.p]
  clear hits hbd
  rintro e w2 ⟨rfl, hb⟩
  have b2 := B1.out.alloc B1.out.size (.cells #[.int .u64 (mN k), .int .u64 (mA0 k f pc), .int .u64 (mA1 k cc), .int .u64 (mA2 k wr)] 25)
  have B2 := Lib.hid (b2.trans (hb.mono b2.size))
  have HC2 := Lib.hid (hp_below (hp_alloc HC1.out _) hb)
  have HR2 := Lib.hid (hp_below (hp_alloc HR1.out _) hb)
  clear hb HC1 HR1 B1 b2
  obtain ⟨r0, r1, r2, r3, r4⟩ := cells5 HR2.out
  obtain ⟨k0, k1, k2, k3⟩ := cells4 HC2.out
  have l1 := lt_of_block HR2.out
  have l2 := lt_of_block HC2.out
  go_wp2_with fail
  refine (parse_any 3 a0 a1 a2 _ h0 c0 c1 d0 d1).mono ?_
  have q1 : pK 3 a0 a1 a2 = 3 := by simp [pK, HO.out]
  have q2 : pF 3 a0 a1 a2 = a0 / 4096 := by simp [pF, HO.out]
  have q3 : pC 3 a0 a1 a2 = min (a1 / 4096) 1048576 := by simp [pC, HO.out]
  have q4 : pE 3 a0 a1 a2 = 0 := by simp [pE, HO.out]
  rw [q1, q2, q3, q4]
  clear q1 q2 q3 q4
  generalize pW 3 a0 a1 a2 = yw
  generalize pP 3 a0 a1 a2 = yp
  obtain ⟨g1, g2, g3, g4, g5⟩ := lenB_true (pOk_len HO.out (by omega))
  have z1 : (a0 % 4096 != 0) = false := by simpa using g1
  have z2 : (a1 % 4096 != 0) = false := by simpa using g2
  have hm : 1 ≤ min (a1 / 4096) 1048576 ∧ min (a1 / 4096) 1048576 ≤ a1 / 4096 ∧ min (a1 / 4096) 1048576 ≤ 1048576 := by omega
  generalize min (a1 / 4096) 1048576 = mm at *
  obtain ⟨m1, m2, m3⟩ := hm
  have z3 : (a1 / 4096 == 0) = false := by simp; omega
  have z4 : decide (34359738368 < a1 / 4096) = false := by simp; omega
  have z5 : decide (34359738368 - a1 / 4096 < a0 / 4096) = false := by simp; omega
  have z7 : decide (a1 / 4096 < mm) = false := by simp; omega
  have z8 : decide (mm < 1) = false := by simp; omega
  have z9 : a1 / 4096 ≤ 34359738368 := by omega
  clear g1 g2
  rintro e w3 ⟨rfl, hb⟩
  have b3 := B2.out.alloc B2.out.size (.cells #[.int .i8 k, .int .u64 f, .int .i64 cc, .bool wr, .int .i64 pc] 28)
  have B3 := Lib.hid (b3.trans (hb.mono b3.size))
  have HC3 := Lib.hid (hp_below (hp_alloc HC2.out _) hb)
  clear hb B2 HC2 b3 k0 k1 k2 k3 l2 r0 r1 r2 r3 r4 l1 HR2
  obtain ⟨k0, k1, k2, k3⟩ := cells4 HC3.out
  have l2 := lt_of_block HC3.out
  go_wp2_with fail
  go_quiet (fail)
  go_wp2_with fail
  have bY := B3.out.alloc B3.out.size (.cells #[.int .i8 3, .int .u64 (a0 / 4096), .int .i64 mm, .bool yw, .int .i64 yp] 28)
  have bZ := (below_drewN bY nq).alloc (below_drewN bY nq).size (.cells #[.int .i64 210, .int .i64 211, .int .i64 20] 29)
  have BZ := Lib.hid bZ
  clear bY bZ
  refine (result_any n 0 _ hn).mono ?_
  rintro e w' ⟨rfl, rfl⟩
  go_wp2_with fail
  refine (read_any _ _ (resW_bd n 0 hn).1 (resW_bd n 0 hn).2).mono ?_
  rintro e w' ⟨rfl, rfl⟩
  go_wp2_with fail
  go_loop [133] (fun i => ∃ j : Nat, j ≤ 3 ∧ i = .int .i64 j) (fun i => 3 - (intOf i).toNat)
  case atStart => exact ⟨0, by omega, rfl⟩
  case round =>
    obtain ⟨j, hj, rfl⟩ := hrel
    have hj4 : j = 0 ∨ j = 1 ∨ j = 2 ∨ j = 3 := by omega
    rcases hj4 with rfl | rfl | rfl | rfl
    · go_wp2_with fail
      refine (result_any n 210 _ hn).mono ?_
      rintro e w' ⟨rfl, rfl⟩
      go_wp2_with fail
      refine (read_any _ _ (resW_bd n 210 hn).1 (resW_bd n 210 hn).2).mono ?_
      rw [(back_bad n 210 (by omega)).1, (back_bad n 210 (by omega)).2]
      rintro e w' ⟨rfl, rfl⟩
      go_wp2_with fail
      go_round
      case rel => exact ⟨1, by omega, rfl⟩
      case measure => simp [intOf]
    · go_wp2_with fail
      refine (result_any n 211 _ hn).mono ?_
      rintro e w' ⟨rfl, rfl⟩
      go_wp2_with fail
      refine (read_any _ _ (resW_bd n 211 hn).1 (resW_bd n 211 hn).2).mono ?_
      rw [(back_bad n 211 (by omega)).1, (back_bad n 211 (by omega)).2]
      rintro e w' ⟨rfl, rfl⟩
      go_wp2_with fail
      go_round
      case rel => exact ⟨2, by omega, rfl⟩
      case measure => simp [intOf]
    · go_wp2_with fail
      refine (result_any n 20 _ hn).mono ?_
      rintro e w' ⟨rfl, rfl⟩
      go_wp2_with fail
      refine (read_any _ _ (resW_bd n 20 hn).1 (resW_bd n 20 hn).2).mono ?_
      rw [(back_bad n 20 (by omega)).1, (back_bad n 20 (by omega)).2]
      rintro e w' ⟨rfl, rfl⟩
      go_wp2_with fail
      go_round
      case rel => exact ⟨3, by omega, rfl⟩
      case measure => simp [intOf]
    · by_cases hneg : n < 0
      · have hd1 : decide (n < 0) = true := by simpa using hneg
        go_wp2_with fail
        refine (wakes_ok _).mono ?_
        rintro e w5 ⟨rfl, hb⟩
        have B5 := Lib.hid hb
        clear hb
        go_wp2_with fail
        go_ret
        exact ⟨rfl, BZ.out.trans (B5.out.mono BZ.out.size)⟩
      · have hd1 : decide (n < 0) = false := by simpa using hneg
        by_cases hbig : 2147483648 < n
        · have hd2 : decide (2147483648 < n) = true := by simpa using hbig
          go_wp2_with fail
          refine (wakes_ok _).mono ?_
          rintro e w5 ⟨rfl, hb⟩
          have B5 := Lib.hid hb
          clear hb
          go_wp2_with fail
          go_ret
          exact ⟨rfl, BZ.out.trans (B5.out.mono BZ.out.size)⟩
        · have hd2 : decide (2147483648 < n) = false := by simpa using hbig
          have ok1 := (back_ok n (by omega) (by omega)).1
          have ok2 := (back_ok n (by omega) (by omega)).2
          go_wp2_with fail
          refine (wakes_ok _).mono ?_
          rintro e w5 ⟨rfl, hb⟩
          have B5 := Lib.hid hb
          clear hb
          go_wp2_with fail
          go_ret
          exact ⟨rfl, BZ.out.trans (B5.out.mono BZ.out.size)⟩

set_option maxHeartbeats 2000000 in
set_option maxRecDepth 100000 in
theorem back_T_big (nu a0 a1 a2 k f cc : Int) (wr : Bool) (pc n : Int) (w : World) (hh : HitsM k f cc wr pc) (ho : pOk nu a0 a1 a2 = true) (hb4 : 4 ≤ nu) (h0 : (0 : Int) ≤ nu) (c0 : 0 ≤ a0) (c1 : a0 ≤ 18446744073709551615) (d0 : 0 ≤ a1) (d1 : a1 ≤ 18446744073709551615) (f0 : 0 ≤ f) (f1 : f ≤ 18446744073709551615) (p1 : pc ≤ 9223372036854775807) (hn : n ≤ 9223372036854775807) :
    Calls Try.prog 6 #[.agg #[.int .u64 nu, .int .u64 a0, .int .u64 a1, .int .u64 a2], .agg #[.int .i8 k, .int .u64 f, .int .i64 cc, .bool wr, .int .i64 pc], .int .i64 n] w fun e w' => e = .returned (.bool true) ∧ Below w.heap.size w w' := by
  have HH := Lib.hid hh; have HO := Lib.hid ho
  clear hh ho
  have B0 := Lib.hid (((Below.refl w.heap.size w).alloc (Nat.le_refl _) (.cells #[.int .u64 nu, .int .u64 a0, .int .u64 a1, .int .u64 a2] 25)).alloc (by simp) (.cells #[.int .i8 k, .int .u64 f, .int .i64 cc, .bool wr, .int .i64 pc] 28))
  have hc := hp_two w (.cells #[.int .u64 nu, .int .u64 a0, .int .u64 a1, .int .u64 a2] 25) (.cells #[.int .i8 k, .int .u64 f, .int .i64 cc, .bool wr, .int .i64 pc] 28)
  have HC0 := Lib.hid hc.1; have HR0 := Lib.hid hc.2
  clear hc
  go_enter Try.func6, Try.ntmps6
  go_wp2_with fail
  refine (make_T k f cc pc wr _ f0 f1 HH.out).mono ?_
  rintro e w1 ⟨rfl, hb⟩
  have B1 := Lib.hid (B0.out.trans (hb.mono B0.out.size))
  have HC1 := Lib.hid (hp_below HC0.out hb); have HR1 := Lib.hid (hp_below HR0.out hb)
  clear hb HC0 HR0 B0
  go_wp2_with fail
  have hbd : 0 ≤ mN k ∧ 0 ≤ mA0 k f pc ∧ mA0 k f pc ≤ 18446744073709551615 ∧ 0 ≤ mA1 k cc ∧ mA1 k cc ≤ 18446744073709551615 := mbounds k f cc pc
  refine (parse_any (mN k) (mA0 k f pc) (mA1 k cc) (mA2 k wr) _ hbd.1 hbd.2.1 hbd.2.2.1 hbd.2.2.2.1 hbd.2.2.2.2).mono ?_
  have hits : Hits (mN k) (mA0 k f pc) (mA1 k cc) (mA2 k wr) k f cc wr pc := HH.out
  rw [hits.e, hits.k, hits.f, hits.c, hits.w, hits.p]
  clear hits hbd
  rintro e w2 ⟨rfl, hb⟩
  have b2 := B1.out.alloc B1.out.size (.cells #[.int .u64 (mN k), .int .u64 (mA0 k f pc), .int .u64 (mA1 k cc), .int .u64 (mA2 k wr)] 25)
  have B2 := Lib.hid (b2.trans (hb.mono b2.size))
  have HC2 := Lib.hid (hp_below (hp_alloc HC1.out _) hb)
  have HR2 := Lib.hid (hp_below (hp_alloc HR1.out _) hb)
  clear hb HC1 HR1 B1 b2
  obtain ⟨r0, r1, r2, r3, r4⟩ := cells5 HR2.out
  obtain ⟨k0, k1, k2, k3⟩ := cells4 HC2.out
  have l1 := lt_of_block HR2.out
  have l2 := lt_of_block HC2.out
  go_wp2_with fail
  refine (parse_any nu a0 a1 a2 _ h0 c0 c1 d0 d1).mono ?_
  have q1 : pK nu a0 a1 a2 = nu := by simp [pK, HO.out]
  have q4 : pE nu a0 a1 a2 = 0 := by simp [pE, HO.out]
  rw [q1, q4]
  clear q1 q4
  generalize pF nu a0 a1 a2 = yf
  generalize pC nu a0 a1 a2 = yc
  generalize pW nu a0 a1 a2 = yw
  generalize pP nu a0 a1 a2 = yp
  have z1 : (nu == 1) = false := by simp; omega
  have z2 : (nu == 2) = false := by simp; omega
  have z3 : (nu == 3) = false := by simp; omega
  rintro e w3 ⟨rfl, hb⟩
  have b3 := B2.out.alloc B2.out.size (.cells #[.int .i8 k, .int .u64 f, .int .i64 cc, .bool wr, .int .i64 pc] 28)
  have B3 := Lib.hid (b3.trans (hb.mono b3.size))
  have HC3 := Lib.hid (hp_below (hp_alloc HC2.out _) hb)
  clear hb B2 HC2 b3 k0 k1 k2 k3 l2 r0 r1 r2 r3 r4 l1 HR2
  obtain ⟨k0, k1, k2, k3⟩ := cells4 HC3.out
  have l2 := lt_of_block HC3.out
  go_wp2_with fail
  have bY := B3.out.alloc B3.out.size (.cells #[.int .i8 nu, .int .u64 yf, .int .i64 yc, .bool yw, .int .i64 yp] 28)
  have bZ := bY.alloc bY.size (.cells #[.int .i64 210, .int .i64 211, .int .i64 20] 29)
  have BZ := Lib.hid bZ
  clear bY bZ
  refine (result_any n 0 _ hn).mono ?_
  rintro e w' ⟨rfl, rfl⟩
  go_wp2_with fail
  refine (read_any _ _ (resW_bd n 0 hn).1 (resW_bd n 0 hn).2).mono ?_
  rintro e w' ⟨rfl, rfl⟩
  go_wp2_with fail
  go_loop [133] (fun i => ∃ j : Nat, j ≤ 3 ∧ i = .int .i64 j) (fun i => 3 - (intOf i).toNat)
  case atStart => exact ⟨0, by omega, rfl⟩
  case round =>
    obtain ⟨j, hj, rfl⟩ := hrel
    have hj4 : j = 0 ∨ j = 1 ∨ j = 2 ∨ j = 3 := by omega
    rcases hj4 with rfl | rfl | rfl | rfl
    · go_wp2_with fail
      refine (result_any n 210 _ hn).mono ?_
      rintro e w' ⟨rfl, rfl⟩
      go_wp2_with fail
      refine (read_any _ _ (resW_bd n 210 hn).1 (resW_bd n 210 hn).2).mono ?_
      rw [(back_bad n 210 (by omega)).1, (back_bad n 210 (by omega)).2]
      rintro e w' ⟨rfl, rfl⟩
      go_wp2_with fail
      go_round
      case rel => exact ⟨1, by omega, rfl⟩
      case measure => simp [intOf]
    · go_wp2_with fail
      refine (result_any n 211 _ hn).mono ?_
      rintro e w' ⟨rfl, rfl⟩
      go_wp2_with fail
      refine (read_any _ _ (resW_bd n 211 hn).1 (resW_bd n 211 hn).2).mono ?_
      rw [(back_bad n 211 (by omega)).1, (back_bad n 211 (by omega)).2]
      rintro e w' ⟨rfl, rfl⟩
      go_wp2_with fail
      go_round
      case rel => exact ⟨2, by omega, rfl⟩
      case measure => simp [intOf]
    · go_wp2_with fail
      refine (result_any n 20 _ hn).mono ?_
      rintro e w' ⟨rfl, rfl⟩
      go_wp2_with fail
      refine (read_any _ _ (resW_bd n 20 hn).1 (resW_bd n 20 hn).2).mono ?_
      rw [(back_bad n 20 (by omega)).1, (back_bad n 20 (by omega)).2]
      rintro e w' ⟨rfl, rfl⟩
      go_wp2_with fail
      go_round
      case rel => exact ⟨3, by omega, rfl⟩
      case measure => simp [intOf]
    · by_cases hneg : n < 0
      · have hd1 : decide (n < 0) = true := by simpa using hneg
        go_wp2_with fail
        refine (wakes_ok _).mono ?_
        rintro e w5 ⟨rfl, hb⟩
        have B5 := Lib.hid hb
        clear hb
        go_wp2_with fail
        go_ret
        exact ⟨rfl, BZ.out.trans (B5.out.mono BZ.out.size)⟩
      · have hd1 : decide (n < 0) = false := by simpa using hneg
        by_cases hbig : 2147483648 < n
        · have hd2 : decide (2147483648 < n) = true := by simpa using hbig
          go_wp2_with fail
          refine (wakes_ok _).mono ?_
          rintro e w5 ⟨rfl, hb⟩
          have B5 := Lib.hid hb
          clear hb
          go_wp2_with fail
          go_ret
          exact ⟨rfl, BZ.out.trans (B5.out.mono BZ.out.size)⟩
        · have hd2 : decide (2147483648 < n) = false := by simpa using hbig
          have ok1 := (back_ok n (by omega) (by omega)).1
          have ok2 := (back_ok n (by omega) (by omega)).2
          go_wp2_with fail
          refine (wakes_ok _).mono ?_
          rintro e w5 ⟨rfl, hb⟩
          have B5 := Lib.hid hb
          clear hb
          go_wp2_with fail
          go_ret
          exact ⟨rfl, BZ.out.trans (B5.out.mono BZ.out.size)⟩

set_option maxHeartbeats 2000000 in
set_option maxRecDepth 100000 in
theorem back_T_no (nu a0 a1 a2 k f cc : Int) (wr : Bool) (pc n : Int) (w : World) (hh : HitsM k f cc wr pc) (ho : pOk nu a0 a1 a2 = false) (h0 : (0 : Int) ≤ nu) (c0 : 0 ≤ a0) (c1 : a0 ≤ 18446744073709551615) (d0 : 0 ≤ a1) (d1 : a1 ≤ 18446744073709551615) (f0 : 0 ≤ f) (f1 : f ≤ 18446744073709551615) (p1 : pc ≤ 9223372036854775807) (hn : n ≤ 9223372036854775807) :
    Calls Try.prog 6 #[.agg #[.int .u64 nu, .int .u64 a0, .int .u64 a1, .int .u64 a2], .agg #[.int .i8 k, .int .u64 f, .int .i64 cc, .bool wr, .int .i64 pc], .int .i64 n] w fun e w' => e = .returned (.bool true) ∧ Below w.heap.size w w' := by
  have HH := Lib.hid hh; have HO := Lib.hid ho
  clear hh ho
  have B0 := Lib.hid (((Below.refl w.heap.size w).alloc (Nat.le_refl _) (.cells #[.int .u64 nu, .int .u64 a0, .int .u64 a1, .int .u64 a2] 25)).alloc (by simp) (.cells #[.int .i8 k, .int .u64 f, .int .i64 cc, .bool wr, .int .i64 pc] 28))
  have hc := hp_two w (.cells #[.int .u64 nu, .int .u64 a0, .int .u64 a1, .int .u64 a2] 25) (.cells #[.int .i8 k, .int .u64 f, .int .i64 cc, .bool wr, .int .i64 pc] 28)
  have HC0 := Lib.hid hc.1; have HR0 := Lib.hid hc.2
  clear hc
  go_enter Try.func6, Try.ntmps6
  go_wp2_with fail
  refine (make_T k f cc pc wr _ f0 f1 HH.out).mono ?_
  rintro e w1 ⟨rfl, hb⟩
  have B1 := Lib.hid (B0.out.trans (hb.mono B0.out.size))
  have HC1 := Lib.hid (hp_below HC0.out hb); have HR1 := Lib.hid (hp_below HR0.out hb)
  clear hb HC0 HR0 B0
  go_wp2_with fail
  have hbd : 0 ≤ mN k ∧ 0 ≤ mA0 k f pc ∧ mA0 k f pc ≤ 18446744073709551615 ∧ 0 ≤ mA1 k cc ∧ mA1 k cc ≤ 18446744073709551615 := mbounds k f cc pc
  refine (parse_any (mN k) (mA0 k f pc) (mA1 k cc) (mA2 k wr) _ hbd.1 hbd.2.1 hbd.2.2.1 hbd.2.2.2.1 hbd.2.2.2.2).mono ?_
  have hits : Hits (mN k) (mA0 k f pc) (mA1 k cc) (mA2 k wr) k f cc wr pc := HH.out
  rw [hits.e, hits.k, hits.f, hits.c, hits.w, hits.p]
  clear hits hbd
  rintro e w2 ⟨rfl, hb⟩
  have b2 := B1.out.alloc B1.out.size (.cells #[.int .u64 (mN k), .int .u64 (mA0 k f pc), .int .u64 (mA1 k cc), .int .u64 (mA2 k wr)] 25)
  have B2 := Lib.hid (b2.trans (hb.mono b2.size))
  have HC2 := Lib.hid (hp_below (hp_alloc HC1.out _) hb)
  have HR2 := Lib.hid (hp_below (hp_alloc HR1.out _) hb)
  clear hb HC1 HR1 B1 b2
  obtain ⟨r0, r1, r2, r3, r4⟩ := cells5 HR2.out
  obtain ⟨k0, k1, k2, k3⟩ := cells4 HC2.out
  have l1 := lt_of_block HR2.out
  have l2 := lt_of_block HC2.out
  go_wp2_with fail
  refine (parse_any nu a0 a1 a2 _ h0 c0 c1 d0 d1).mono ?_
  have q1 : pK nu a0 a1 a2 = 0 := by simp [pK, HO.out]
  have q2 : pF nu a0 a1 a2 = 0 := by simp [pF, HO.out]
  have q3 : pC nu a0 a1 a2 = 0 := by simp [pC, HO.out]
  have q4 : pE nu a0 a1 a2 = 210 := by simp [pE, HO.out]
  have q5 : pW nu a0 a1 a2 = false := by simp [pW, HO.out]
  have q6 : pP nu a0 a1 a2 = 0 := by simp [pP, HO.out]
  rw [q1, q2, q3, q4, q5, q6]
  clear q1 q2 q3 q4 q5 q6
  rintro e w3 ⟨rfl, hb⟩
  have b3 := B2.out.alloc B2.out.size (.cells #[.int .i8 k, .int .u64 f, .int .i64 cc, .bool wr, .int .i64 pc] 28)
  have B3 := Lib.hid (b3.trans (hb.mono b3.size))
  have HC3 := Lib.hid (hp_below (hp_alloc HC2.out _) hb)
  clear hb B2 HC2 b3 k0 k1 k2 k3 l2 r0 r1 r2 r3 r4 l1 HR2
  obtain ⟨k0, k1, k2, k3⟩ := cells4 HC3.out
  have l2 := lt_of_block HC3.out
  go_wp2_with fail
  have bY := B3.out.alloc B3.out.size (.cells #[.int .i8 0, .int .u64 0, .int .i64 0, .bool false, .int .i64 0] 28)
  have bZ := bY.alloc bY.size (.cells #[.int .i64 210, .int .i64 211, .int .i64 20] 29)
  have BZ := Lib.hid bZ
  clear bY bZ
  refine (result_any n 0 _ hn).mono ?_
  rintro e w' ⟨rfl, rfl⟩
  go_wp2_with fail
  refine (read_any _ _ (resW_bd n 0 hn).1 (resW_bd n 0 hn).2).mono ?_
  rintro e w' ⟨rfl, rfl⟩
  go_wp2_with fail
  go_loop [133] (fun i => ∃ j : Nat, j ≤ 3 ∧ i = .int .i64 j) (fun i => 3 - (intOf i).toNat)
  case atStart => exact ⟨0, by omega, rfl⟩
  case round =>
    obtain ⟨j, hj, rfl⟩ := hrel
    have hj4 : j = 0 ∨ j = 1 ∨ j = 2 ∨ j = 3 := by omega
    rcases hj4 with rfl | rfl | rfl | rfl
    · go_wp2_with fail
      refine (result_any n 210 _ hn).mono ?_
      rintro e w' ⟨rfl, rfl⟩
      go_wp2_with fail
      refine (read_any _ _ (resW_bd n 210 hn).1 (resW_bd n 210 hn).2).mono ?_
      rw [(back_bad n 210 (by omega)).1, (back_bad n 210 (by omega)).2]
      rintro e w' ⟨rfl, rfl⟩
      go_wp2_with fail
      go_round
      case rel => exact ⟨1, by omega, rfl⟩
      case measure => simp [intOf]
    · go_wp2_with fail
      refine (result_any n 211 _ hn).mono ?_
      rintro e w' ⟨rfl, rfl⟩
      go_wp2_with fail
      refine (read_any _ _ (resW_bd n 211 hn).1 (resW_bd n 211 hn).2).mono ?_
      rw [(back_bad n 211 (by omega)).1, (back_bad n 211 (by omega)).2]
      rintro e w' ⟨rfl, rfl⟩
      go_wp2_with fail
      go_round
      case rel => exact ⟨2, by omega, rfl⟩
      case measure => simp [intOf]
    · go_wp2_with fail
      refine (result_any n 20 _ hn).mono ?_
      rintro e w' ⟨rfl, rfl⟩
      go_wp2_with fail
      refine (read_any _ _ (resW_bd n 20 hn).1 (resW_bd n 20 hn).2).mono ?_
      rw [(back_bad n 20 (by omega)).1, (back_bad n 20 (by omega)).2]
      rintro e w' ⟨rfl, rfl⟩
      go_wp2_with fail
      go_round
      case rel => exact ⟨3, by omega, rfl⟩
      case measure => simp [intOf]
    · by_cases hneg : n < 0
      · have hd1 : decide (n < 0) = true := by simpa using hneg
        go_wp2_with fail
        refine (wakes_ok _).mono ?_
        rintro e w5 ⟨rfl, hb⟩
        have B5 := Lib.hid hb
        clear hb
        go_wp2_with fail
        go_ret
        exact ⟨rfl, BZ.out.trans (B5.out.mono BZ.out.size)⟩
      · have hd1 : decide (n < 0) = false := by simpa using hneg
        by_cases hbig : 2147483648 < n
        · have hd2 : decide (2147483648 < n) = true := by simpa using hbig
          go_wp2_with fail
          refine (wakes_ok _).mono ?_
          rintro e w5 ⟨rfl, hb⟩
          have B5 := Lib.hid hb
          clear hb
          go_wp2_with fail
          go_ret
          exact ⟨rfl, BZ.out.trans (B5.out.mono BZ.out.size)⟩
        · have hd2 : decide (2147483648 < n) = false := by simpa using hbig
          have ok1 := (back_ok n (by omega) (by omega)).1
          have ok2 := (back_ok n (by omega) (by omega)).2
          go_wp2_with fail
          refine (wakes_ok _).mono ?_
          rintro e w5 ⟨rfl, hb⟩
          have B5 := Lib.hid hb
          clear hb
          go_wp2_with fail
          go_ret
          exact ⟨rfl, BZ.out.trans (B5.out.mono BZ.out.size)⟩

set_option maxHeartbeats 2000000 in
set_option maxRecDepth 100000 in
theorem back_F_1 (a0 a1 a2 k f cc : Int) (wr : Bool) (pc n : Int) (w : World) (hh : ¬ HitsM k f cc wr pc) (ho : pOk 1 a0 a1 a2 = true) (h0 : (0 : Int) ≤ 1) (c0 : 0 ≤ a0) (c1 : a0 ≤ 18446744073709551615) (d0 : 0 ≤ a1) (d1 : a1 ≤ 18446744073709551615) (f0 : 0 ≤ f) (f1 : f ≤ 18446744073709551615) (p1 : pc ≤ 9223372036854775807) (hn : n ≤ 9223372036854775807) :
    Calls Try.prog 6 #[.agg #[.int .u64 1, .int .u64 a0, .int .u64 a1, .int .u64 a2], .agg #[.int .i8 k, .int .u64 f, .int .i64 cc, .bool wr, .int .i64 pc], .int .i64 n] w fun e w' => e = .returned (.bool true) ∧ Below w.heap.size w w' := by
  have HH := Lib.hid hh; have HO := Lib.hid ho
  clear hh ho
  have B0 := Lib.hid (((Below.refl w.heap.size w).alloc (Nat.le_refl _) (.cells #[.int .u64 1, .int .u64 a0, .int .u64 a1, .int .u64 a2] 25)).alloc (by simp) (.cells #[.int .i8 k, .int .u64 f, .int .i64 cc, .bool wr, .int .i64 pc] 28))
  have hc := hp_two w (.cells #[.int .u64 1, .int .u64 a0, .int .u64 a1, .int .u64 a2] 25) (.cells #[.int .i8 k, .int .u64 f, .int .i64 cc, .bool wr, .int .i64 pc] 28)
  have HC0 := Lib.hid hc.1; have HR0 := Lib.hid hc.2
  clear hc
  go_enter Try.func6, Try.ntmps6
  go_wp2_with fail
  refine (make_F k f cc pc wr _ f0 f1 HH.out).mono ?_
  rintro e w1 ⟨rfl, hb⟩
  have B1 := Lib.hid (B0.out.trans (hb.mono B0.out.size))
  have HC1 := Lib.hid (hp_below HC0.out hb); have HR1 := Lib.hid (hp_below HR0.out hb)
  clear hb HC0 HR0 B0
  obtain ⟨k0, k1, k2, k3⟩ := cells4 HC1.out
  have l2 := lt_of_block HC1.out
  go_wp2_with fail
  refine (parse_any 1 a0 a1 a2 _ h0 c0 c1 d0 d1).mono ?_
  have q1 : pK 1 a0 a1 a2 = 1 := by simp [pK, HO.out]
  have q2 : pF 1 a0 a1 a2 = a0 / 4096 := by simp [pF, HO.out]
  have q3 : pC 1 a0 a1 a2 = min (a1 / 4096) 1048576 := by simp [pC, HO.out]
  have q4 : pE 1 a0 a1 a2 = 0 := by simp [pE, HO.out]
  rw [q1, q2, q3, q4]
  clear q1 q2 q3 q4
  generalize pW 1 a0 a1 a2 = yw
  generalize pP 1 a0 a1 a2 = yp
  obtain ⟨g1, g2, g3, g4, g5⟩ := lenB_true (pOk_len HO.out (by omega))
  have z1 : (a0 % 4096 != 0) = false := by simpa using g1
  have z2 : (a1 % 4096 != 0) = false := by simpa using g2
  have hm : 1 ≤ min (a1 / 4096) 1048576 ∧ min (a1 / 4096) 1048576 ≤ a1 / 4096 ∧ min (a1 / 4096) 1048576 ≤ 1048576 := by omega
  generalize min (a1 / 4096) 1048576 = mm at *
  obtain ⟨m1, m2, m3⟩ := hm
  have z3 : (a1 / 4096 == 0) = false := by simp; omega
  have z4 : decide (34359738368 < a1 / 4096) = false := by simp; omega
  have z5 : decide (34359738368 - a1 / 4096 < a0 / 4096) = false := by simp; omega
  have z7 : decide (a1 / 4096 < mm) = false := by simp; omega
  have z8 : decide (mm < 1) = false := by simp; omega
  have z9 : a1 / 4096 ≤ 34359738368 := by omega
  clear g1 g2
  rintro e w3 ⟨rfl, hb⟩
  have b3 := B1.out.alloc B1.out.size (.cells #[.int .u64 0, .int .u64 0, .int .u64 0, .int .u64 0] 25)
  have B3 := Lib.hid (b3.trans (hb.mono b3.size))
  have HC3 := Lib.hid (hp_below (hp_alloc HC1.out _) hb)
  clear hb B1 HC1 b3 k0 k1 k2 k3 l2 HR1
  obtain ⟨k0, k1, k2, k3⟩ := cells4 HC3.out
  have l2 := lt_of_block HC3.out
  go_wp2_with fail
  go_quiet (fail)
  go_wp2_with fail
  have bY := B3.out.alloc B3.out.size (.cells #[.int .i8 1, .int .u64 (a0 / 4096), .int .i64 mm, .bool yw, .int .i64 yp] 28)
  have bZ := (below_drewN bY nq).alloc (below_drewN bY nq).size (.cells #[.int .i64 210, .int .i64 211, .int .i64 20] 29)
  have BZ := Lib.hid bZ
  clear bY bZ
  refine (result_any n 0 _ hn).mono ?_
  rintro e w' ⟨rfl, rfl⟩
  go_wp2_with fail
  refine (read_any _ _ (resW_bd n 0 hn).1 (resW_bd n 0 hn).2).mono ?_
  rintro e w' ⟨rfl, rfl⟩
  go_wp2_with fail
  go_loop [133] (fun i => ∃ j : Nat, j ≤ 3 ∧ i = .int .i64 j) (fun i => 3 - (intOf i).toNat)
  case atStart => exact ⟨0, by omega, rfl⟩
  case round =>
    obtain ⟨j, hj, rfl⟩ := hrel
    have hj4 : j = 0 ∨ j = 1 ∨ j = 2 ∨ j = 3 := by omega
    rcases hj4 with rfl | rfl | rfl | rfl
    · go_wp2_with fail
      refine (result_any n 210 _ hn).mono ?_
      rintro e w' ⟨rfl, rfl⟩
      go_wp2_with fail
      refine (read_any _ _ (resW_bd n 210 hn).1 (resW_bd n 210 hn).2).mono ?_
      rw [(back_bad n 210 (by omega)).1, (back_bad n 210 (by omega)).2]
      rintro e w' ⟨rfl, rfl⟩
      go_wp2_with fail
      go_round
      case rel => exact ⟨1, by omega, rfl⟩
      case measure => simp [intOf]
    · go_wp2_with fail
      refine (result_any n 211 _ hn).mono ?_
      rintro e w' ⟨rfl, rfl⟩
      go_wp2_with fail
      refine (read_any _ _ (resW_bd n 211 hn).1 (resW_bd n 211 hn).2).mono ?_
      rw [(back_bad n 211 (by omega)).1, (back_bad n 211 (by omega)).2]
      rintro e w' ⟨rfl, rfl⟩
      go_wp2_with fail
      go_round
      case rel => exact ⟨2, by omega, rfl⟩
      case measure => simp [intOf]
    · go_wp2_with fail
      refine (result_any n 20 _ hn).mono ?_
      rintro e w' ⟨rfl, rfl⟩
      go_wp2_with fail
      refine (read_any _ _ (resW_bd n 20 hn).1 (resW_bd n 20 hn).2).mono ?_
      rw [(back_bad n 20 (by omega)).1, (back_bad n 20 (by omega)).2]
      rintro e w' ⟨rfl, rfl⟩
      go_wp2_with fail
      go_round
      case rel => exact ⟨3, by omega, rfl⟩
      case measure => simp [intOf]
    · by_cases hneg : n < 0
      · have hd1 : decide (n < 0) = true := by simpa using hneg
        go_wp2_with fail
        refine (wakes_ok _).mono ?_
        rintro e w5 ⟨rfl, hb⟩
        have B5 := Lib.hid hb
        clear hb
        go_wp2_with fail
        go_ret
        exact ⟨rfl, BZ.out.trans (B5.out.mono BZ.out.size)⟩
      · have hd1 : decide (n < 0) = false := by simpa using hneg
        by_cases hbig : 2147483648 < n
        · have hd2 : decide (2147483648 < n) = true := by simpa using hbig
          go_wp2_with fail
          refine (wakes_ok _).mono ?_
          rintro e w5 ⟨rfl, hb⟩
          have B5 := Lib.hid hb
          clear hb
          go_wp2_with fail
          go_ret
          exact ⟨rfl, BZ.out.trans (B5.out.mono BZ.out.size)⟩
        · have hd2 : decide (2147483648 < n) = false := by simpa using hbig
          have ok1 := (back_ok n (by omega) (by omega)).1
          have ok2 := (back_ok n (by omega) (by omega)).2
          go_wp2_with fail
          refine (wakes_ok _).mono ?_
          rintro e w5 ⟨rfl, hb⟩
          have B5 := Lib.hid hb
          clear hb
          go_wp2_with fail
          go_ret
          exact ⟨rfl, BZ.out.trans (B5.out.mono BZ.out.size)⟩

set_option maxHeartbeats 2000000 in
set_option maxRecDepth 100000 in
theorem back_F_2 (a0 a1 a2 k f cc : Int) (wr : Bool) (pc n : Int) (w : World) (hh : ¬ HitsM k f cc wr pc) (ho : pOk 2 a0 a1 a2 = true) (h0 : (0 : Int) ≤ 2) (c0 : 0 ≤ a0) (c1 : a0 ≤ 18446744073709551615) (d0 : 0 ≤ a1) (d1 : a1 ≤ 18446744073709551615) (f0 : 0 ≤ f) (f1 : f ≤ 18446744073709551615) (p1 : pc ≤ 9223372036854775807) (hn : n ≤ 9223372036854775807) :
    Calls Try.prog 6 #[.agg #[.int .u64 2, .int .u64 a0, .int .u64 a1, .int .u64 a2], .agg #[.int .i8 k, .int .u64 f, .int .i64 cc, .bool wr, .int .i64 pc], .int .i64 n] w fun e w' => e = .returned (.bool true) ∧ Below w.heap.size w w' := by
  have HH := Lib.hid hh; have HO := Lib.hid ho
  clear hh ho
  have B0 := Lib.hid (((Below.refl w.heap.size w).alloc (Nat.le_refl _) (.cells #[.int .u64 2, .int .u64 a0, .int .u64 a1, .int .u64 a2] 25)).alloc (by simp) (.cells #[.int .i8 k, .int .u64 f, .int .i64 cc, .bool wr, .int .i64 pc] 28))
  have hc := hp_two w (.cells #[.int .u64 2, .int .u64 a0, .int .u64 a1, .int .u64 a2] 25) (.cells #[.int .i8 k, .int .u64 f, .int .i64 cc, .bool wr, .int .i64 pc] 28)
  have HC0 := Lib.hid hc.1; have HR0 := Lib.hid hc.2
  clear hc
  go_enter Try.func6, Try.ntmps6
  go_wp2_with fail
  refine (make_F k f cc pc wr _ f0 f1 HH.out).mono ?_
  rintro e w1 ⟨rfl, hb⟩
  have B1 := Lib.hid (B0.out.trans (hb.mono B0.out.size))
  have HC1 := Lib.hid (hp_below HC0.out hb); have HR1 := Lib.hid (hp_below HR0.out hb)
  clear hb HC0 HR0 B0
  obtain ⟨k0, k1, k2, k3⟩ := cells4 HC1.out
  have l2 := lt_of_block HC1.out
  go_wp2_with fail
  refine (parse_any 2 a0 a1 a2 _ h0 c0 c1 d0 d1).mono ?_
  have q1 : pK 2 a0 a1 a2 = 2 := by simp [pK, HO.out]
  have q2 : pF 2 a0 a1 a2 = a0 / 4096 := by simp [pF, HO.out]
  have q3 : pC 2 a0 a1 a2 = min (a1 / 4096) 1048576 := by simp [pC, HO.out]
  have q4 : pE 2 a0 a1 a2 = 0 := by simp [pE, HO.out]
  rw [q1, q2, q3, q4]
  clear q1 q2 q3 q4
  generalize pW 2 a0 a1 a2 = yw
  generalize pP 2 a0 a1 a2 = yp
  obtain ⟨g1, g2, g3, g4, g5⟩ := lenB_true (pOk_len HO.out (by omega))
  have z1 : (a0 % 4096 != 0) = false := by simpa using g1
  have z2 : (a1 % 4096 != 0) = false := by simpa using g2
  have hm : 1 ≤ min (a1 / 4096) 1048576 ∧ min (a1 / 4096) 1048576 ≤ a1 / 4096 ∧ min (a1 / 4096) 1048576 ≤ 1048576 := by omega
  generalize min (a1 / 4096) 1048576 = mm at *
  obtain ⟨m1, m2, m3⟩ := hm
  have z3 : (a1 / 4096 == 0) = false := by simp; omega
  have z4 : decide (34359738368 < a1 / 4096) = false := by simp; omega
  have z5 : decide (34359738368 - a1 / 4096 < a0 / 4096) = false := by simp; omega
  have z7 : decide (a1 / 4096 < mm) = false := by simp; omega
  have z8 : decide (mm < 1) = false := by simp; omega
  have z9 : a1 / 4096 ≤ 34359738368 := by omega
  clear g1 g2
  rintro e w3 ⟨rfl, hb⟩
  have b3 := B1.out.alloc B1.out.size (.cells #[.int .u64 0, .int .u64 0, .int .u64 0, .int .u64 0] 25)
  have B3 := Lib.hid (b3.trans (hb.mono b3.size))
  have HC3 := Lib.hid (hp_below (hp_alloc HC1.out _) hb)
  clear hb B1 HC1 b3 k0 k1 k2 k3 l2 HR1
  obtain ⟨k0, k1, k2, k3⟩ := cells4 HC3.out
  have l2 := lt_of_block HC3.out
  go_wp2_with fail
  go_quiet (fail)
  go_wp2_with fail
  have bY := B3.out.alloc B3.out.size (.cells #[.int .i8 2, .int .u64 (a0 / 4096), .int .i64 mm, .bool yw, .int .i64 yp] 28)
  have bZ := (below_drewN bY nq).alloc (below_drewN bY nq).size (.cells #[.int .i64 210, .int .i64 211, .int .i64 20] 29)
  have BZ := Lib.hid bZ
  clear bY bZ
  refine (result_any n 0 _ hn).mono ?_
  rintro e w' ⟨rfl, rfl⟩
  go_wp2_with fail
  refine (read_any _ _ (resW_bd n 0 hn).1 (resW_bd n 0 hn).2).mono ?_
  rintro e w' ⟨rfl, rfl⟩
  go_wp2_with fail
  go_loop [133] (fun i => ∃ j : Nat, j ≤ 3 ∧ i = .int .i64 j) (fun i => 3 - (intOf i).toNat)
  case atStart => exact ⟨0, by omega, rfl⟩
  case round =>
    obtain ⟨j, hj, rfl⟩ := hrel
    have hj4 : j = 0 ∨ j = 1 ∨ j = 2 ∨ j = 3 := by omega
    rcases hj4 with rfl | rfl | rfl | rfl
    · go_wp2_with fail
      refine (result_any n 210 _ hn).mono ?_
      rintro e w' ⟨rfl, rfl⟩
      go_wp2_with fail
      refine (read_any _ _ (resW_bd n 210 hn).1 (resW_bd n 210 hn).2).mono ?_
      rw [(back_bad n 210 (by omega)).1, (back_bad n 210 (by omega)).2]
      rintro e w' ⟨rfl, rfl⟩
      go_wp2_with fail
      go_round
      case rel => exact ⟨1, by omega, rfl⟩
      case measure => simp [intOf]
    · go_wp2_with fail
      refine (result_any n 211 _ hn).mono ?_
      rintro e w' ⟨rfl, rfl⟩
      go_wp2_with fail
      refine (read_any _ _ (resW_bd n 211 hn).1 (resW_bd n 211 hn).2).mono ?_
      rw [(back_bad n 211 (by omega)).1, (back_bad n 211 (by omega)).2]
      rintro e w' ⟨rfl, rfl⟩
      go_wp2_with fail
      go_round
      case rel => exact ⟨2, by omega, rfl⟩
      case measure => simp [intOf]
    · go_wp2_with fail
      refine (result_any n 20 _ hn).mono ?_
      rintro e w' ⟨rfl, rfl⟩
      go_wp2_with fail
      refine (read_any _ _ (resW_bd n 20 hn).1 (resW_bd n 20 hn).2).mono ?_
      rw [(back_bad n 20 (by omega)).1, (back_bad n 20 (by omega)).2]
      rintro e w' ⟨rfl, rfl⟩
      go_wp2_with fail
      go_round
      case rel => exact ⟨3, by omega, rfl⟩
      case measure => simp [intOf]
    · by_cases hneg : n < 0
      · have hd1 : decide (n < 0) = true := by simpa using hneg
        go_wp2_with fail
        refine (wakes_ok _).mono ?_
        rintro e w5 ⟨rfl, hb⟩
        have B5 := Lib.hid hb
        clear hb
        go_wp2_with fail
        go_ret
        exact ⟨rfl, BZ.out.trans (B5.out.mono BZ.out.size)⟩
      · have hd1 : decide (n < 0) = false := by simpa using hneg
        by_cases hbig : 2147483648 < n
        · have hd2 : decide (2147483648 < n) = true := by simpa using hbig
          go_wp2_with fail
          refine (wakes_ok _).mono ?_
          rintro e w5 ⟨rfl, hb⟩
          have B5 := Lib.hid hb
          clear hb
          go_wp2_with fail
          go_ret
          exact ⟨rfl, BZ.out.trans (B5.out.mono BZ.out.size)⟩
        · have hd2 : decide (2147483648 < n) = false := by simpa using hbig
          have ok1 := (back_ok n (by omega) (by omega)).1
          have ok2 := (back_ok n (by omega) (by omega)).2
          go_wp2_with fail
          refine (wakes_ok _).mono ?_
          rintro e w5 ⟨rfl, hb⟩
          have B5 := Lib.hid hb
          clear hb
          go_wp2_with fail
          go_ret
          exact ⟨rfl, BZ.out.trans (B5.out.mono BZ.out.size)⟩

set_option maxHeartbeats 2000000 in
set_option maxRecDepth 100000 in
theorem back_F_3 (a0 a1 a2 k f cc : Int) (wr : Bool) (pc n : Int) (w : World) (hh : ¬ HitsM k f cc wr pc) (ho : pOk 3 a0 a1 a2 = true) (h0 : (0 : Int) ≤ 3) (c0 : 0 ≤ a0) (c1 : a0 ≤ 18446744073709551615) (d0 : 0 ≤ a1) (d1 : a1 ≤ 18446744073709551615) (f0 : 0 ≤ f) (f1 : f ≤ 18446744073709551615) (p1 : pc ≤ 9223372036854775807) (hn : n ≤ 9223372036854775807) :
    Calls Try.prog 6 #[.agg #[.int .u64 3, .int .u64 a0, .int .u64 a1, .int .u64 a2], .agg #[.int .i8 k, .int .u64 f, .int .i64 cc, .bool wr, .int .i64 pc], .int .i64 n] w fun e w' => e = .returned (.bool true) ∧ Below w.heap.size w w' := by
  have HH := Lib.hid hh; have HO := Lib.hid ho
  clear hh ho
  have B0 := Lib.hid (((Below.refl w.heap.size w).alloc (Nat.le_refl _) (.cells #[.int .u64 3, .int .u64 a0, .int .u64 a1, .int .u64 a2] 25)).alloc (by simp) (.cells #[.int .i8 k, .int .u64 f, .int .i64 cc, .bool wr, .int .i64 pc] 28))
  have hc := hp_two w (.cells #[.int .u64 3, .int .u64 a0, .int .u64 a1, .int .u64 a2] 25) (.cells #[.int .i8 k, .int .u64 f, .int .i64 cc, .bool wr, .int .i64 pc] 28)
  have HC0 := Lib.hid hc.1; have HR0 := Lib.hid hc.2
  clear hc
  go_enter Try.func6, Try.ntmps6
  go_wp2_with fail
  refine (make_F k f cc pc wr _ f0 f1 HH.out).mono ?_
  rintro e w1 ⟨rfl, hb⟩
  have B1 := Lib.hid (B0.out.trans (hb.mono B0.out.size))
  have HC1 := Lib.hid (hp_below HC0.out hb); have HR1 := Lib.hid (hp_below HR0.out hb)
  clear hb HC0 HR0 B0
  obtain ⟨k0, k1, k2, k3⟩ := cells4 HC1.out
  have l2 := lt_of_block HC1.out
  go_wp2_with fail
  refine (parse_any 3 a0 a1 a2 _ h0 c0 c1 d0 d1).mono ?_
  have q1 : pK 3 a0 a1 a2 = 3 := by simp [pK, HO.out]
  have q2 : pF 3 a0 a1 a2 = a0 / 4096 := by simp [pF, HO.out]
  have q3 : pC 3 a0 a1 a2 = min (a1 / 4096) 1048576 := by simp [pC, HO.out]
  have q4 : pE 3 a0 a1 a2 = 0 := by simp [pE, HO.out]
  rw [q1, q2, q3, q4]
  clear q1 q2 q3 q4
  generalize pW 3 a0 a1 a2 = yw
  generalize pP 3 a0 a1 a2 = yp
  obtain ⟨g1, g2, g3, g4, g5⟩ := lenB_true (pOk_len HO.out (by omega))
  have z1 : (a0 % 4096 != 0) = false := by simpa using g1
  have z2 : (a1 % 4096 != 0) = false := by simpa using g2
  have hm : 1 ≤ min (a1 / 4096) 1048576 ∧ min (a1 / 4096) 1048576 ≤ a1 / 4096 ∧ min (a1 / 4096) 1048576 ≤ 1048576 := by omega
  generalize min (a1 / 4096) 1048576 = mm at *
  obtain ⟨m1, m2, m3⟩ := hm
  have z3 : (a1 / 4096 == 0) = false := by simp; omega
  have z4 : decide (34359738368 < a1 / 4096) = false := by simp; omega
  have z5 : decide (34359738368 - a1 / 4096 < a0 / 4096) = false := by simp; omega
  have z7 : decide (a1 / 4096 < mm) = false := by simp; omega
  have z8 : decide (mm < 1) = false := by simp; omega
  have z9 : a1 / 4096 ≤ 34359738368 := by omega
  clear g1 g2
  rintro e w3 ⟨rfl, hb⟩
  have b3 := B1.out.alloc B1.out.size (.cells #[.int .u64 0, .int .u64 0, .int .u64 0, .int .u64 0] 25)
  have B3 := Lib.hid (b3.trans (hb.mono b3.size))
  have HC3 := Lib.hid (hp_below (hp_alloc HC1.out _) hb)
  clear hb B1 HC1 b3 k0 k1 k2 k3 l2 HR1
  obtain ⟨k0, k1, k2, k3⟩ := cells4 HC3.out
  have l2 := lt_of_block HC3.out
  go_wp2_with fail
  go_quiet (fail)
  go_wp2_with fail
  have bY := B3.out.alloc B3.out.size (.cells #[.int .i8 3, .int .u64 (a0 / 4096), .int .i64 mm, .bool yw, .int .i64 yp] 28)
  have bZ := (below_drewN bY nq).alloc (below_drewN bY nq).size (.cells #[.int .i64 210, .int .i64 211, .int .i64 20] 29)
  have BZ := Lib.hid bZ
  clear bY bZ
  refine (result_any n 0 _ hn).mono ?_
  rintro e w' ⟨rfl, rfl⟩
  go_wp2_with fail
  refine (read_any _ _ (resW_bd n 0 hn).1 (resW_bd n 0 hn).2).mono ?_
  rintro e w' ⟨rfl, rfl⟩
  go_wp2_with fail
  go_loop [133] (fun i => ∃ j : Nat, j ≤ 3 ∧ i = .int .i64 j) (fun i => 3 - (intOf i).toNat)
  case atStart => exact ⟨0, by omega, rfl⟩
  case round =>
    obtain ⟨j, hj, rfl⟩ := hrel
    have hj4 : j = 0 ∨ j = 1 ∨ j = 2 ∨ j = 3 := by omega
    rcases hj4 with rfl | rfl | rfl | rfl
    · go_wp2_with fail
      refine (result_any n 210 _ hn).mono ?_
      rintro e w' ⟨rfl, rfl⟩
      go_wp2_with fail
      refine (read_any _ _ (resW_bd n 210 hn).1 (resW_bd n 210 hn).2).mono ?_
      rw [(back_bad n 210 (by omega)).1, (back_bad n 210 (by omega)).2]
      rintro e w' ⟨rfl, rfl⟩
      go_wp2_with fail
      go_round
      case rel => exact ⟨1, by omega, rfl⟩
      case measure => simp [intOf]
    · go_wp2_with fail
      refine (result_any n 211 _ hn).mono ?_
      rintro e w' ⟨rfl, rfl⟩
      go_wp2_with fail
      refine (read_any _ _ (resW_bd n 211 hn).1 (resW_bd n 211 hn).2).mono ?_
      rw [(back_bad n 211 (by omega)).1, (back_bad n 211 (by omega)).2]
      rintro e w' ⟨rfl, rfl⟩
      go_wp2_with fail
      go_round
      case rel => exact ⟨2, by omega, rfl⟩
      case measure => simp [intOf]
    · go_wp2_with fail
      refine (result_any n 20 _ hn).mono ?_
      rintro e w' ⟨rfl, rfl⟩
      go_wp2_with fail
      refine (read_any _ _ (resW_bd n 20 hn).1 (resW_bd n 20 hn).2).mono ?_
      rw [(back_bad n 20 (by omega)).1, (back_bad n 20 (by omega)).2]
      rintro e w' ⟨rfl, rfl⟩
      go_wp2_with fail
      go_round
      case rel => exact ⟨3, by omega, rfl⟩
      case measure => simp [intOf]
    · by_cases hneg : n < 0
      · have hd1 : decide (n < 0) = true := by simpa using hneg
        go_wp2_with fail
        refine (wakes_ok _).mono ?_
        rintro e w5 ⟨rfl, hb⟩
        have B5 := Lib.hid hb
        clear hb
        go_wp2_with fail
        go_ret
        exact ⟨rfl, BZ.out.trans (B5.out.mono BZ.out.size)⟩
      · have hd1 : decide (n < 0) = false := by simpa using hneg
        by_cases hbig : 2147483648 < n
        · have hd2 : decide (2147483648 < n) = true := by simpa using hbig
          go_wp2_with fail
          refine (wakes_ok _).mono ?_
          rintro e w5 ⟨rfl, hb⟩
          have B5 := Lib.hid hb
          clear hb
          go_wp2_with fail
          go_ret
          exact ⟨rfl, BZ.out.trans (B5.out.mono BZ.out.size)⟩
        · have hd2 : decide (2147483648 < n) = false := by simpa using hbig
          have ok1 := (back_ok n (by omega) (by omega)).1
          have ok2 := (back_ok n (by omega) (by omega)).2
          go_wp2_with fail
          refine (wakes_ok _).mono ?_
          rintro e w5 ⟨rfl, hb⟩
          have B5 := Lib.hid hb
          clear hb
          go_wp2_with fail
          go_ret
          exact ⟨rfl, BZ.out.trans (B5.out.mono BZ.out.size)⟩

set_option maxHeartbeats 2000000 in
set_option maxRecDepth 100000 in
theorem back_F_big (nu a0 a1 a2 k f cc : Int) (wr : Bool) (pc n : Int) (w : World) (hh : ¬ HitsM k f cc wr pc) (ho : pOk nu a0 a1 a2 = true) (hb4 : 4 ≤ nu) (h0 : (0 : Int) ≤ nu) (c0 : 0 ≤ a0) (c1 : a0 ≤ 18446744073709551615) (d0 : 0 ≤ a1) (d1 : a1 ≤ 18446744073709551615) (f0 : 0 ≤ f) (f1 : f ≤ 18446744073709551615) (p1 : pc ≤ 9223372036854775807) (hn : n ≤ 9223372036854775807) :
    Calls Try.prog 6 #[.agg #[.int .u64 nu, .int .u64 a0, .int .u64 a1, .int .u64 a2], .agg #[.int .i8 k, .int .u64 f, .int .i64 cc, .bool wr, .int .i64 pc], .int .i64 n] w fun e w' => e = .returned (.bool true) ∧ Below w.heap.size w w' := by
  have HH := Lib.hid hh; have HO := Lib.hid ho
  clear hh ho
  have B0 := Lib.hid (((Below.refl w.heap.size w).alloc (Nat.le_refl _) (.cells #[.int .u64 nu, .int .u64 a0, .int .u64 a1, .int .u64 a2] 25)).alloc (by simp) (.cells #[.int .i8 k, .int .u64 f, .int .i64 cc, .bool wr, .int .i64 pc] 28))
  have hc := hp_two w (.cells #[.int .u64 nu, .int .u64 a0, .int .u64 a1, .int .u64 a2] 25) (.cells #[.int .i8 k, .int .u64 f, .int .i64 cc, .bool wr, .int .i64 pc] 28)
  have HC0 := Lib.hid hc.1; have HR0 := Lib.hid hc.2
  clear hc
  go_enter Try.func6, Try.ntmps6
  go_wp2_with fail
  refine (make_F k f cc pc wr _ f0 f1 HH.out).mono ?_
  rintro e w1 ⟨rfl, hb⟩
  have B1 := Lib.hid (B0.out.trans (hb.mono B0.out.size))
  have HC1 := Lib.hid (hp_below HC0.out hb); have HR1 := Lib.hid (hp_below HR0.out hb)
  clear hb HC0 HR0 B0
  obtain ⟨k0, k1, k2, k3⟩ := cells4 HC1.out
  have l2 := lt_of_block HC1.out
  go_wp2_with fail
  refine (parse_any nu a0 a1 a2 _ h0 c0 c1 d0 d1).mono ?_
  have q1 : pK nu a0 a1 a2 = nu := by simp [pK, HO.out]
  have q4 : pE nu a0 a1 a2 = 0 := by simp [pE, HO.out]
  rw [q1, q4]
  clear q1 q4
  generalize pF nu a0 a1 a2 = yf
  generalize pC nu a0 a1 a2 = yc
  generalize pW nu a0 a1 a2 = yw
  generalize pP nu a0 a1 a2 = yp
  have z1 : (nu == 1) = false := by simp; omega
  have z2 : (nu == 2) = false := by simp; omega
  have z3 : (nu == 3) = false := by simp; omega
  rintro e w3 ⟨rfl, hb⟩
  have b3 := B1.out.alloc B1.out.size (.cells #[.int .u64 0, .int .u64 0, .int .u64 0, .int .u64 0] 25)
  have B3 := Lib.hid (b3.trans (hb.mono b3.size))
  have HC3 := Lib.hid (hp_below (hp_alloc HC1.out _) hb)
  clear hb B1 HC1 b3 k0 k1 k2 k3 l2 HR1
  obtain ⟨k0, k1, k2, k3⟩ := cells4 HC3.out
  have l2 := lt_of_block HC3.out
  go_wp2_with fail
  have bY := B3.out.alloc B3.out.size (.cells #[.int .i8 nu, .int .u64 yf, .int .i64 yc, .bool yw, .int .i64 yp] 28)
  have bZ := bY.alloc bY.size (.cells #[.int .i64 210, .int .i64 211, .int .i64 20] 29)
  have BZ := Lib.hid bZ
  clear bY bZ
  refine (result_any n 0 _ hn).mono ?_
  rintro e w' ⟨rfl, rfl⟩
  go_wp2_with fail
  refine (read_any _ _ (resW_bd n 0 hn).1 (resW_bd n 0 hn).2).mono ?_
  rintro e w' ⟨rfl, rfl⟩
  go_wp2_with fail
  go_loop [133] (fun i => ∃ j : Nat, j ≤ 3 ∧ i = .int .i64 j) (fun i => 3 - (intOf i).toNat)
  case atStart => exact ⟨0, by omega, rfl⟩
  case round =>
    obtain ⟨j, hj, rfl⟩ := hrel
    have hj4 : j = 0 ∨ j = 1 ∨ j = 2 ∨ j = 3 := by omega
    rcases hj4 with rfl | rfl | rfl | rfl
    · go_wp2_with fail
      refine (result_any n 210 _ hn).mono ?_
      rintro e w' ⟨rfl, rfl⟩
      go_wp2_with fail
      refine (read_any _ _ (resW_bd n 210 hn).1 (resW_bd n 210 hn).2).mono ?_
      rw [(back_bad n 210 (by omega)).1, (back_bad n 210 (by omega)).2]
      rintro e w' ⟨rfl, rfl⟩
      go_wp2_with fail
      go_round
      case rel => exact ⟨1, by omega, rfl⟩
      case measure => simp [intOf]
    · go_wp2_with fail
      refine (result_any n 211 _ hn).mono ?_
      rintro e w' ⟨rfl, rfl⟩
      go_wp2_with fail
      refine (read_any _ _ (resW_bd n 211 hn).1 (resW_bd n 211 hn).2).mono ?_
      rw [(back_bad n 211 (by omega)).1, (back_bad n 211 (by omega)).2]
      rintro e w' ⟨rfl, rfl⟩
      go_wp2_with fail
      go_round
      case rel => exact ⟨2, by omega, rfl⟩
      case measure => simp [intOf]
    · go_wp2_with fail
      refine (result_any n 20 _ hn).mono ?_
      rintro e w' ⟨rfl, rfl⟩
      go_wp2_with fail
      refine (read_any _ _ (resW_bd n 20 hn).1 (resW_bd n 20 hn).2).mono ?_
      rw [(back_bad n 20 (by omega)).1, (back_bad n 20 (by omega)).2]
      rintro e w' ⟨rfl, rfl⟩
      go_wp2_with fail
      go_round
      case rel => exact ⟨3, by omega, rfl⟩
      case measure => simp [intOf]
    · by_cases hneg : n < 0
      · have hd1 : decide (n < 0) = true := by simpa using hneg
        go_wp2_with fail
        refine (wakes_ok _).mono ?_
        rintro e w5 ⟨rfl, hb⟩
        have B5 := Lib.hid hb
        clear hb
        go_wp2_with fail
        go_ret
        exact ⟨rfl, BZ.out.trans (B5.out.mono BZ.out.size)⟩
      · have hd1 : decide (n < 0) = false := by simpa using hneg
        by_cases hbig : 2147483648 < n
        · have hd2 : decide (2147483648 < n) = true := by simpa using hbig
          go_wp2_with fail
          refine (wakes_ok _).mono ?_
          rintro e w5 ⟨rfl, hb⟩
          have B5 := Lib.hid hb
          clear hb
          go_wp2_with fail
          go_ret
          exact ⟨rfl, BZ.out.trans (B5.out.mono BZ.out.size)⟩
        · have hd2 : decide (2147483648 < n) = false := by simpa using hbig
          have ok1 := (back_ok n (by omega) (by omega)).1
          have ok2 := (back_ok n (by omega) (by omega)).2
          go_wp2_with fail
          refine (wakes_ok _).mono ?_
          rintro e w5 ⟨rfl, hb⟩
          have B5 := Lib.hid hb
          clear hb
          go_wp2_with fail
          go_ret
          exact ⟨rfl, BZ.out.trans (B5.out.mono BZ.out.size)⟩

set_option maxHeartbeats 2000000 in
set_option maxRecDepth 100000 in
theorem back_F_no (nu a0 a1 a2 k f cc : Int) (wr : Bool) (pc n : Int) (w : World) (hh : ¬ HitsM k f cc wr pc) (ho : pOk nu a0 a1 a2 = false) (h0 : (0 : Int) ≤ nu) (c0 : 0 ≤ a0) (c1 : a0 ≤ 18446744073709551615) (d0 : 0 ≤ a1) (d1 : a1 ≤ 18446744073709551615) (f0 : 0 ≤ f) (f1 : f ≤ 18446744073709551615) (p1 : pc ≤ 9223372036854775807) (hn : n ≤ 9223372036854775807) :
    Calls Try.prog 6 #[.agg #[.int .u64 nu, .int .u64 a0, .int .u64 a1, .int .u64 a2], .agg #[.int .i8 k, .int .u64 f, .int .i64 cc, .bool wr, .int .i64 pc], .int .i64 n] w fun e w' => e = .returned (.bool true) ∧ Below w.heap.size w w' := by
  have HH := Lib.hid hh; have HO := Lib.hid ho
  clear hh ho
  have B0 := Lib.hid (((Below.refl w.heap.size w).alloc (Nat.le_refl _) (.cells #[.int .u64 nu, .int .u64 a0, .int .u64 a1, .int .u64 a2] 25)).alloc (by simp) (.cells #[.int .i8 k, .int .u64 f, .int .i64 cc, .bool wr, .int .i64 pc] 28))
  have hc := hp_two w (.cells #[.int .u64 nu, .int .u64 a0, .int .u64 a1, .int .u64 a2] 25) (.cells #[.int .i8 k, .int .u64 f, .int .i64 cc, .bool wr, .int .i64 pc] 28)
  have HC0 := Lib.hid hc.1; have HR0 := Lib.hid hc.2
  clear hc
  go_enter Try.func6, Try.ntmps6
  go_wp2_with fail
  refine (make_F k f cc pc wr _ f0 f1 HH.out).mono ?_
  rintro e w1 ⟨rfl, hb⟩
  have B1 := Lib.hid (B0.out.trans (hb.mono B0.out.size))
  have HC1 := Lib.hid (hp_below HC0.out hb); have HR1 := Lib.hid (hp_below HR0.out hb)
  clear hb HC0 HR0 B0
  obtain ⟨k0, k1, k2, k3⟩ := cells4 HC1.out
  have l2 := lt_of_block HC1.out
  go_wp2_with fail
  refine (parse_any nu a0 a1 a2 _ h0 c0 c1 d0 d1).mono ?_
  have q1 : pK nu a0 a1 a2 = 0 := by simp [pK, HO.out]
  have q2 : pF nu a0 a1 a2 = 0 := by simp [pF, HO.out]
  have q3 : pC nu a0 a1 a2 = 0 := by simp [pC, HO.out]
  have q4 : pE nu a0 a1 a2 = 210 := by simp [pE, HO.out]
  have q5 : pW nu a0 a1 a2 = false := by simp [pW, HO.out]
  have q6 : pP nu a0 a1 a2 = 0 := by simp [pP, HO.out]
  rw [q1, q2, q3, q4, q5, q6]
  clear q1 q2 q3 q4 q5 q6
  rintro e w3 ⟨rfl, hb⟩
  have b3 := B1.out.alloc B1.out.size (.cells #[.int .u64 0, .int .u64 0, .int .u64 0, .int .u64 0] 25)
  have B3 := Lib.hid (b3.trans (hb.mono b3.size))
  have HC3 := Lib.hid (hp_below (hp_alloc HC1.out _) hb)
  clear hb B1 HC1 b3 k0 k1 k2 k3 l2 HR1
  obtain ⟨k0, k1, k2, k3⟩ := cells4 HC3.out
  have l2 := lt_of_block HC3.out
  go_wp2_with fail
  have bY := B3.out.alloc B3.out.size (.cells #[.int .i8 0, .int .u64 0, .int .i64 0, .bool false, .int .i64 0] 28)
  have bZ := bY.alloc bY.size (.cells #[.int .i64 210, .int .i64 211, .int .i64 20] 29)
  have BZ := Lib.hid bZ
  clear bY bZ
  refine (result_any n 0 _ hn).mono ?_
  rintro e w' ⟨rfl, rfl⟩
  go_wp2_with fail
  refine (read_any _ _ (resW_bd n 0 hn).1 (resW_bd n 0 hn).2).mono ?_
  rintro e w' ⟨rfl, rfl⟩
  go_wp2_with fail
  go_loop [133] (fun i => ∃ j : Nat, j ≤ 3 ∧ i = .int .i64 j) (fun i => 3 - (intOf i).toNat)
  case atStart => exact ⟨0, by omega, rfl⟩
  case round =>
    obtain ⟨j, hj, rfl⟩ := hrel
    have hj4 : j = 0 ∨ j = 1 ∨ j = 2 ∨ j = 3 := by omega
    rcases hj4 with rfl | rfl | rfl | rfl
    · go_wp2_with fail
      refine (result_any n 210 _ hn).mono ?_
      rintro e w' ⟨rfl, rfl⟩
      go_wp2_with fail
      refine (read_any _ _ (resW_bd n 210 hn).1 (resW_bd n 210 hn).2).mono ?_
      rw [(back_bad n 210 (by omega)).1, (back_bad n 210 (by omega)).2]
      rintro e w' ⟨rfl, rfl⟩
      go_wp2_with fail
      go_round
      case rel => exact ⟨1, by omega, rfl⟩
      case measure => simp [intOf]
    · go_wp2_with fail
      refine (result_any n 211 _ hn).mono ?_
      rintro e w' ⟨rfl, rfl⟩
      go_wp2_with fail
      refine (read_any _ _ (resW_bd n 211 hn).1 (resW_bd n 211 hn).2).mono ?_
      rw [(back_bad n 211 (by omega)).1, (back_bad n 211 (by omega)).2]
      rintro e w' ⟨rfl, rfl⟩
      go_wp2_with fail
      go_round
      case rel => exact ⟨2, by omega, rfl⟩
      case measure => simp [intOf]
    · go_wp2_with fail
      refine (result_any n 20 _ hn).mono ?_
      rintro e w' ⟨rfl, rfl⟩
      go_wp2_with fail
      refine (read_any _ _ (resW_bd n 20 hn).1 (resW_bd n 20 hn).2).mono ?_
      rw [(back_bad n 20 (by omega)).1, (back_bad n 20 (by omega)).2]
      rintro e w' ⟨rfl, rfl⟩
      go_wp2_with fail
      go_round
      case rel => exact ⟨3, by omega, rfl⟩
      case measure => simp [intOf]
    · by_cases hneg : n < 0
      · have hd1 : decide (n < 0) = true := by simpa using hneg
        go_wp2_with fail
        refine (wakes_ok _).mono ?_
        rintro e w5 ⟨rfl, hb⟩
        have B5 := Lib.hid hb
        clear hb
        go_wp2_with fail
        go_ret
        exact ⟨rfl, BZ.out.trans (B5.out.mono BZ.out.size)⟩
      · have hd1 : decide (n < 0) = false := by simpa using hneg
        by_cases hbig : 2147483648 < n
        · have hd2 : decide (2147483648 < n) = true := by simpa using hbig
          go_wp2_with fail
          refine (wakes_ok _).mono ?_
          rintro e w5 ⟨rfl, hb⟩
          have B5 := Lib.hid hb
          clear hb
          go_wp2_with fail
          go_ret
          exact ⟨rfl, BZ.out.trans (B5.out.mono BZ.out.size)⟩
        · have hd2 : decide (2147483648 < n) = false := by simpa using hbig
          have ok1 := (back_ok n (by omega) (by omega)).1
          have ok2 := (back_ok n (by omega) (by omega)).2
          go_wp2_with fail
          refine (wakes_ok _).mono ?_
          rintro e w5 ⟨rfl, hb⟩
          have B5 := Lib.hid hb
          clear hb
          go_wp2_with fail
          go_ret
          exact ⟨rfl, BZ.out.trans (B5.out.mono BZ.out.size)⟩

theorem back_walk (nu a0 a1 a2 k f cc : Int) (wr : Bool) (pc n : Int) (w : World) (h0 : (0 : Int) ≤ nu) (c0 : 0 ≤ a0) (c1 : a0 ≤ 18446744073709551615) (d0 : 0 ≤ a1) (d1 : a1 ≤ 18446744073709551615) (f0 : 0 ≤ f) (f1 : f ≤ 18446744073709551615) (p1 : pc ≤ 9223372036854775807) (hn : n ≤ 9223372036854775807) :
    Calls Try.prog 6 #[.agg #[.int .u64 nu, .int .u64 a0, .int .u64 a1, .int .u64 a2], .agg #[.int .i8 k, .int .u64 f, .int .i64 cc, .bool wr, .int .i64 pc], .int .i64 n] w fun e w' => e = .returned (.bool true) ∧ Below w.heap.size w w' := by
  cases ho : pOk nu a0 a1 a2
  · by_cases hh : HitsM k f cc wr pc
    · exact back_T_no nu a0 a1 a2 k f cc wr pc n w hh ho h0 c0 c1 d0 d1 f0 f1 p1 hn
    · exact back_F_no nu a0 a1 a2 k f cc wr pc n w hh ho h0 c0 c1 d0 d1 f0 f1 p1 hn
  · have hnu : nu = 1 ∨ nu = 2 ∨ nu = 3 ∨ 4 ≤ nu := by
      by_cases h : nu = 0
      · subst h; simp [pOk] at ho
      · omega
    rcases hnu with rfl | rfl | rfl | h4
    · by_cases hh : HitsM k f cc wr pc
      · exact back_T_1 a0 a1 a2 k f cc wr pc n w hh ho h0 c0 c1 d0 d1 f0 f1 p1 hn
      · exact back_F_1 a0 a1 a2 k f cc wr pc n w hh ho h0 c0 c1 d0 d1 f0 f1 p1 hn
    · by_cases hh : HitsM k f cc wr pc
      · exact back_T_2 a0 a1 a2 k f cc wr pc n w hh ho h0 c0 c1 d0 d1 f0 f1 p1 hn
      · exact back_F_2 a0 a1 a2 k f cc wr pc n w hh ho h0 c0 c1 d0 d1 f0 f1 p1 hn
    · by_cases hh : HitsM k f cc wr pc
      · exact back_T_3 a0 a1 a2 k f cc wr pc n w hh ho h0 c0 c1 d0 d1 f0 f1 p1 hn
      · exact back_F_3 a0 a1 a2 k f cc wr pc n w hh ho h0 c0 c1 d0 d1 f0 f1 p1 hn
    · by_cases hh : HitsM k f cc wr pc
      · exact back_T_big nu a0 a1 a2 k f cc wr pc n w hh ho h4 h0 c0 c1 d0 d1 f0 f1 p1 hn
      · exact back_F_big nu a0 a1 a2 k f cc wr pc n w hh ho h4 h0 c0 c1 d0 d1 f0 f1 p1 hn

namespace callBack
theorem laid : laidOutB Try.prog = true := by kernel_rfl
theorem own : ownKnob Try.prog.godebug = none := by kernel_rfl
theorem lifted (os : Os) (started : os.Started) (H : Type) (enc : TypeId × Value → H) :
    ReturnsInHanded {} Try.checked os 6 .any (Rows.callBackSpec.pre6 enc Try.prog Try.f6 Rows.callBackRow.domain false) (Rows.callBackSpec.post enc Try.prog Try.f6 false true false false) := by
  refine returnsInHanded_of_change (C := Try.checked) own started (by kernel_rfl) Try.func6
    (ChangeSpec.witness6 (enc := enc) (C := Try.checked) false ⟨#[], #[.agg #[.int .u64 0, .int .u64 0, .int .u64 0, .int .u64 0], .agg #[.int .i8 0, .int .u64 0, .int .i64 0, .bool false, .int .i64 0], .int .i64 0], []⟩ 8 (by kernel_rfl) (by kernel_rfl) (by kernel_rfl) (by kernel_rfl)) ?_
  intro W base args ds gs before hval0 hW hcnd _
  have hval : ∀ (j : Nat) t v, Try.f6.params[j]? = some t → args[j]? = some v → Value.okWide Try.prog W .any base t v := hval0
  have hW' := hW
  obtain ⟨p, q, hA0, hV, rfl, hfz, hnd⟩ := hW
  have hA : DataW.TrodAll enc Try.prog W 0 (fun _ => true) true Try.f6.params.toList args.toList ds p := hA0
  rw [Try.params6] at hA hval
  obtain ⟨v0, vs0, d0, ds0, p0, q0, hargs, rfl, rfl, h0, r0⟩ := trodAll_cons hA
  obtain ⟨v1, vs1, d1, ds1, p1, q1, rfl, rfl, rfl, h1, r1⟩ := trodAll_cons r0
  obtain ⟨v2, vs2, d2, ds2, p2, q2, rfl, rfl, rfl, h2, r2⟩ := trodAll_cons r1
  obtain ⟨rfl, rfl, rfl⟩ := trodAll_nil r2
  obtain rfl : args = #[v0, v1, v2] := by cases args; simp_all
  obtain ⟨rfl, rfl⟩ := trodVars_none hV
  obtain ⟨fuel0, hf0⟩ := h0
  obtain ⟨fuel1, hf1⟩ := h1
  obtain ⟨nu, a, b, c, hc, x0, x1, x2, x3⟩ := call_cells hf0
  obtain ⟨k, f, cc, wr, pc, ho, y0, y1, y2, y3⟩ := req_cells hf1
  obtain rfl := agg_of Try.underlying25 (hval 0 25 v0 rfl rfl) hc
  obtain rfl := agg_of Try.underlying28 (hval 1 28 v1 rfl rfl) ho
  obtain ⟨n, rfl, rfl, rfl, wn⟩ := open_int Try.underlying3 (hval 2 3 v2 rfl rfl) h2
  have fin : Calls Try.prog 6 #[.agg #[.int .u64 nu, .int .u64 a, .int .u64 b, .int .u64 c], .agg #[.int .i8 k, .int .u64 f, .int .i64 cc, .bool wr, .int .i64 pc], .int .i64 n] W fun e w' => e = .returned (.bool true) ∧ Below W.heap.size W w' :=
    back_walk nu a b c k f cc wr pc n W (Go.bounds_u64 x0).1 (Go.bounds_u64 x1).1 (Go.bounds_u64 x1).2 (Go.bounds_u64 x2).1 (Go.bounds_u64 x2).2 (Go.bounds_u64 y1).1 (Go.bounds_u64 y1).2 (Go.bounds_i64 y3).2 (Go.bounds_i64 wn).2
  refine fin.mono fun e W' ⟨he, hg⟩ => ?_
  subst he
  exact ⟨_, rfl, law_post laid hW' rfl (by decide +kernel) rfl rfl Try.underlying4 hg⟩

theorem over : Rows.callBackRow.holds Try.pinned (OpenSpec.ofChange Rows.callBackSpec) :=
  OpenClaim.holds_of_wide 6 Try.f6 rfl rfl rfl rfl rfl rfl rfl ⟨rfl, rfl, rfl, rfl, rfl⟩ rfl rfl rfl rfl rfl (by kernel_rfl) Try.func6 (by kernel_rfl)
    (of_decide_eq_true (by kernel_rfl)) (by unfold Func.isWrapper; first | (rw [if_pos (by decide +kernel)]; kernel_rfl) | (rw [if_neg (by decide +kernel)]; exact ⟨rfl, rfl⟩))
    (fun os started H enc _ => lifted os started H enc)
end callBack

/-- THE STATEMENT. -/
theorem callBack_proved : Rows.CallBackSaid := callBack.over
#print axioms callBack_proved
end Go.Proofs.Ytgfnefcgpdkljaa
