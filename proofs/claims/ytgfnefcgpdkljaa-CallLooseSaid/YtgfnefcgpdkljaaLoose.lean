/- Statement CallLoose of layer 21: the law returns true at every input, and every argument reads as before. No conditions. -/
import Derived.Test.YtgfnefcgpdkljaaB5
import Derived.Test.YtgfnefcgpdkljaaShape
namespace Go.Proofs.Ytgfnefcgpdkljaa
open Go.ChangeShapes Go.WideShapes Go.ChangeAt Go.RowKit
set_option linter.unusedVariables false

/-- Two calls ask for the same. -/
structure Same (nu a0 a1 a2 b0 b1 b2 : Int) : Prop where
  k : pK nu b0 b1 b2 = pK nu a0 a1 a2
  f : pF nu b0 b1 b2 = pF nu a0 a1 a2
  c : pC nu b0 b1 b2 = pC nu a0 a1 a2
  w : pW nu b0 b1 b2 = pW nu a0 a1 a2
  p : pP nu b0 b1 b2 = pP nu a0 a1 a2
  e : pE nu b0 b1 b2 = pE nu a0 a1 a2
theorem same2 (a0 a1 a2 b2 : Int) : Same 2 a0 a1 a2 a0 a1 b2 := by
  have h : pOk 2 a0 a1 b2 = pOk 2 a0 a1 a2 := by simp [pOk]
  refine ⟨?_, ?_, ?_, ?_, ?_, ?_⟩ <;> simp [pK, pF, pC, pW, pP, pE, h]
theorem same456 (nu a0 a1 a2 b0 b1 b2 : Int) (h : nu = 4 ∨ nu = 5 ∨ nu = 6) : Same nu a0 a1 a2 b0 b1 b2 ∧ pE nu a0 a1 a2 = 0 := by
  have h1 : pOk nu b0 b1 b2 = true := by rcases h with rfl | rfl | rfl <;> simp [pOk]
  have h2 : pOk nu a0 a1 a2 = true := by rcases h with rfl | rfl | rfl <;> simp [pOk]
  refine ⟨⟨?_, ?_, ?_, ?_, ?_, ?_⟩, ?_⟩ <;> rcases h with rfl | rfl | rfl <;> simp [pK, pF, pC, pW, pP, pE, h1, h2]
theorem same7 (a0 a1 a2 b1 b2 : Int) : Same 7 a0 a1 a2 a0 b1 b2 := by
  have h : pOk 7 a0 b1 b2 = pOk 7 a0 a1 a2 := by simp [pOk]
  refine ⟨?_, ?_, ?_, ?_, ?_, ?_⟩ <;> simp [pK, pF, pC, pW, pP, pE, h]

set_option maxHeartbeats 2000000 in
theorem loose_walk (nu a0 a1 a2 o0 o1 o2 : Int) (w : World) (h0 : 0 ≤ nu) (c0 : 0 ≤ a0) (c1 : a0 ≤ 18446744073709551615) (d0 : 0 ≤ a1) (d1 : a1 ≤ 18446744073709551615)
    (e0 : 0 ≤ o0) (e1 : o0 ≤ 18446744073709551615) (f0 : 0 ≤ o1) (f1 : o1 ≤ 18446744073709551615) :
    Calls Try.prog 3 #[.agg #[.int .u64 nu, .int .u64 a0, .int .u64 a1, .int .u64 a2], .agg #[.int .u64 o0, .int .u64 o1, .int .u64 o2]] w fun e w' => e = .returned (.bool true) ∧ Below w.heap.size w w' := by
  go_enter Try.func3, Try.ntmps3
  go_wp2_with fail
  refine (parse_any nu a0 a1 a2 _ h0 c0 c1 d0 d1).mono ?_
  rintro e w1 ⟨rfl, hb⟩
  have s1 := hb.size
  simp at s1
  have hb0 := Lib.hid (((Below.refl w.heap.size w).alloc (Nat.le_refl _) (.cells #[.int .u64 nu, .int .u64 a0, .int .u64 a1, .int .u64 a2] 25)).alloc (by simp) (.cells #[.int .u64 o0, .int .u64 o1, .int .u64 o2] 23))
  have hk1 : w1.heap[w.heap.size]? = some (.cells #[.int .u64 nu, .int .u64 a0, .int .u64 a1, .int .u64 a2] 25 (0, 0)) := by
    rw [hb.block _ (by simp; omega), Below.heap_alloc _ _ _ (by simp), heap_alloc_new]
  have hk2 : w1.heap[w.heap.size + 1]? = some (.cells #[.int .u64 o0, .int .u64 o1, .int .u64 o2] 23 (0, 0)) := by
    rw [hb.block _ (by simp)]
    have := heap_alloc_new (w.alloc (.cells #[.int .u64 nu, .int .u64 a0, .int .u64 a1, .int .u64 a2] 25)) (.cells #[.int .u64 o0, .int .u64 o1, .int .u64 o2] 23)
    rw [World.size_alloc] at this
    exact this
  have B1 := Lib.hid (hb0.out.trans (hb.mono (by simp; omega)))
  obtain ⟨k0, k1, k2, k3⟩ := cells4 hk1
  obtain ⟨q0, q1, q2⟩ := cells3 hk2
  have l1 : w.heap.size < w1.heap.size := by omega
  have l2 : w.heap.size + 1 < w1.heap.size := by omega
  have HK1 := Lib.hid hk1
  clear hb hb0 hk1 hk2
  by_cases n2 : nu = 2
  · subst n2
    have S := same2 a0 a1 a2 o2
    go_wp2_with fail
    refine (parse_any 2 a0 a1 o2 _ h0 c0 c1 d0 d1).mono ?_
    rw [S.k, S.f, S.c, S.w, S.p, S.e]
    rintro e w2 ⟨rfl, hb⟩
    have hx : w2.heap[w1.heap.size]? = some (.cells #[.int .i8 (pK 2 a0 a1 a2), .int .u64 (pF 2 a0 a1 a2), .int .i64 (pC 2 a0 a1 a2), .bool (pW 2 a0 a1 a2), .int .i64 (pP 2 a0 a1 a2)] 28 (0, 0)) := by
      rw [hb.block _ (by simp; omega), Below.heap_alloc _ _ _ (by simp), heap_alloc_new]
    have hc2 : w2.heap[w.heap.size]? = some (.cells #[.int .u64 2, .int .u64 a0, .int .u64 a1, .int .u64 a2] 25 (0, 0)) := by
      rw [hb.block _ (by simp; omega), Below.heap_alloc _ _ _ (by simp; omega), Below.heap_alloc _ _ _ (by omega), HK1.out]
    have b2 := (B1.out.alloc B1.out.size (.cells #[.int .i8 (pK 2 a0 a1 a2), .int .u64 (pF 2 a0 a1 a2), .int .i64 (pC 2 a0 a1 a2), .bool (pW 2 a0 a1 a2), .int .i64 (pP 2 a0 a1 a2)] 28)).alloc (by simp; omega) (.cells #[.int .u64 2, .int .u64 a0, .int .u64 a1, .int .u64 o2] 25)
    have B2 := Lib.hid (b2.trans (hb.mono (by simp; omega)))
    have s2 := hb.size
    simp at s2
    have l3 : w1.heap.size < w2.heap.size := by omega
    have l4 : w.heap.size < w2.heap.size := by omega
    obtain ⟨x0, x1, x2, x3, x4⟩ := cells5 hx
    obtain ⟨y0, _, _, _⟩ := cells4 hc2
    clear hb hx hc2 b2 k0 k1 k2 k3 q0 q1 q2
    go_wp2_with fail
    refine (wakes_ok _).mono ?_
    rintro e w3 ⟨rfl, hb⟩
    have B3 := Lib.hid hb
    clear hb
    go_wp2_with fail
    go_ret
    have b3 := B2.out.alloc B2.out.size (.cells #[.int .i8 (pK 2 a0 a1 a2), .int .u64 (pF 2 a0 a1 a2), .int .i64 (pC 2 a0 a1 a2), .bool (pW 2 a0 a1 a2), .int .i64 (pP 2 a0 a1 a2)] 28)
    exact ⟨rfl, b3.trans (B3.out.mono b3.size)⟩
  have t2 : (nu == 2) = false := by simpa using n2
  by_cases n4 : nu = 4
  · subst n4
    have S2 := same456 4 a0 a1 a2 o0 o1 o2 (by omega)
    have S := S2.1
    have E := S2.2
    clear S2
    rw [E]
    go_wp2_with fail
    refine (parse_any 4 o0 o1 o2 _ h0 e0 e1 f0 f1).mono ?_
    rw [S.k, S.f, S.c, S.w, S.p, S.e]
    rw [E]
    rintro e w2 ⟨rfl, hb⟩
    have hx : w2.heap[w1.heap.size]? = some (.cells #[.int .i8 (pK 4 a0 a1 a2), .int .u64 (pF 4 a0 a1 a2), .int .i64 (pC 4 a0 a1 a2), .bool (pW 4 a0 a1 a2), .int .i64 (pP 4 a0 a1 a2)] 28 (0, 0)) := by
      rw [hb.block _ (by simp; omega), Below.heap_alloc _ _ _ (by simp), heap_alloc_new]
    have hc2 : w2.heap[w.heap.size]? = some (.cells #[.int .u64 4, .int .u64 a0, .int .u64 a1, .int .u64 a2] 25 (0, 0)) := by
      rw [hb.block _ (by simp; omega), Below.heap_alloc _ _ _ (by simp; omega), Below.heap_alloc _ _ _ (by omega), HK1.out]
    have b2 := (B1.out.alloc B1.out.size (.cells #[.int .i8 (pK 4 a0 a1 a2), .int .u64 (pF 4 a0 a1 a2), .int .i64 (pC 4 a0 a1 a2), .bool (pW 4 a0 a1 a2), .int .i64 (pP 4 a0 a1 a2)] 28)).alloc (by simp; omega) (.cells #[.int .u64 4, .int .u64 o0, .int .u64 o1, .int .u64 o2] 25)
    have B2 := Lib.hid (b2.trans (hb.mono (by simp; omega)))
    have s2 := hb.size
    simp at s2
    have l3 : w1.heap.size < w2.heap.size := by omega
    have l4 : w.heap.size < w2.heap.size := by omega
    obtain ⟨x0, x1, x2, x3, x4⟩ := cells5 hx
    obtain ⟨y0, _, _, _⟩ := cells4 hc2
    clear hb hx hc2 b2 k0 k1 k2 k3 q0 q1 q2
    go_wp2_with fail
    refine (wakes_ok _).mono ?_
    rintro e w3 ⟨rfl, hb⟩
    have B3 := Lib.hid hb
    clear hb
    go_wp2_with fail
    go_ret
    have b3 := B2.out.alloc B2.out.size (.cells #[.int .i8 (pK 4 a0 a1 a2), .int .u64 (pF 4 a0 a1 a2), .int .i64 (pC 4 a0 a1 a2), .bool (pW 4 a0 a1 a2), .int .i64 (pP 4 a0 a1 a2)] 28)
    exact ⟨rfl, b3.trans (B3.out.mono b3.size)⟩
  have t4 : (nu == 4) = false := by simpa using n4
  have u4 : (nu != 4) = true := by simpa using n4
  by_cases n5 : nu = 5
  · subst n5
    have S2 := same456 5 a0 a1 a2 o0 o1 o2 (by omega)
    have S := S2.1
    have E := S2.2
    clear S2
    rw [E]
    go_wp2_with fail
    refine (parse_any 5 o0 o1 o2 _ h0 e0 e1 f0 f1).mono ?_
    rw [S.k, S.f, S.c, S.w, S.p, S.e]
    rw [E]
    rintro e w2 ⟨rfl, hb⟩
    have hx : w2.heap[w1.heap.size]? = some (.cells #[.int .i8 (pK 5 a0 a1 a2), .int .u64 (pF 5 a0 a1 a2), .int .i64 (pC 5 a0 a1 a2), .bool (pW 5 a0 a1 a2), .int .i64 (pP 5 a0 a1 a2)] 28 (0, 0)) := by
      rw [hb.block _ (by simp; omega), Below.heap_alloc _ _ _ (by simp), heap_alloc_new]
    have hc2 : w2.heap[w.heap.size]? = some (.cells #[.int .u64 5, .int .u64 a0, .int .u64 a1, .int .u64 a2] 25 (0, 0)) := by
      rw [hb.block _ (by simp; omega), Below.heap_alloc _ _ _ (by simp; omega), Below.heap_alloc _ _ _ (by omega), HK1.out]
    have b2 := (B1.out.alloc B1.out.size (.cells #[.int .i8 (pK 5 a0 a1 a2), .int .u64 (pF 5 a0 a1 a2), .int .i64 (pC 5 a0 a1 a2), .bool (pW 5 a0 a1 a2), .int .i64 (pP 5 a0 a1 a2)] 28)).alloc (by simp; omega) (.cells #[.int .u64 5, .int .u64 o0, .int .u64 o1, .int .u64 o2] 25)
    have B2 := Lib.hid (b2.trans (hb.mono (by simp; omega)))
    have s2 := hb.size
    simp at s2
    have l3 : w1.heap.size < w2.heap.size := by omega
    have l4 : w.heap.size < w2.heap.size := by omega
    obtain ⟨x0, x1, x2, x3, x4⟩ := cells5 hx
    obtain ⟨y0, _, _, _⟩ := cells4 hc2
    clear hb hx hc2 b2 k0 k1 k2 k3 q0 q1 q2
    go_wp2_with fail
    refine (wakes_ok _).mono ?_
    rintro e w3 ⟨rfl, hb⟩
    have B3 := Lib.hid hb
    clear hb
    go_wp2_with fail
    go_ret
    have b3 := B2.out.alloc B2.out.size (.cells #[.int .i8 (pK 5 a0 a1 a2), .int .u64 (pF 5 a0 a1 a2), .int .i64 (pC 5 a0 a1 a2), .bool (pW 5 a0 a1 a2), .int .i64 (pP 5 a0 a1 a2)] 28)
    exact ⟨rfl, b3.trans (B3.out.mono b3.size)⟩
  have t5 : (nu == 5) = false := by simpa using n5
  have u5 : (nu != 5) = true := by simpa using n5
  by_cases n6 : nu = 6
  · subst n6
    have S2 := same456 6 a0 a1 a2 o0 o1 o2 (by omega)
    have S := S2.1
    have E := S2.2
    clear S2
    rw [E]
    go_wp2_with fail
    refine (parse_any 6 o0 o1 o2 _ h0 e0 e1 f0 f1).mono ?_
    rw [S.k, S.f, S.c, S.w, S.p, S.e]
    rw [E]
    rintro e w2 ⟨rfl, hb⟩
    have hx : w2.heap[w1.heap.size]? = some (.cells #[.int .i8 (pK 6 a0 a1 a2), .int .u64 (pF 6 a0 a1 a2), .int .i64 (pC 6 a0 a1 a2), .bool (pW 6 a0 a1 a2), .int .i64 (pP 6 a0 a1 a2)] 28 (0, 0)) := by
      rw [hb.block _ (by simp; omega), Below.heap_alloc _ _ _ (by simp), heap_alloc_new]
    have hc2 : w2.heap[w.heap.size]? = some (.cells #[.int .u64 6, .int .u64 a0, .int .u64 a1, .int .u64 a2] 25 (0, 0)) := by
      rw [hb.block _ (by simp; omega), Below.heap_alloc _ _ _ (by simp; omega), Below.heap_alloc _ _ _ (by omega), HK1.out]
    have b2 := (B1.out.alloc B1.out.size (.cells #[.int .i8 (pK 6 a0 a1 a2), .int .u64 (pF 6 a0 a1 a2), .int .i64 (pC 6 a0 a1 a2), .bool (pW 6 a0 a1 a2), .int .i64 (pP 6 a0 a1 a2)] 28)).alloc (by simp; omega) (.cells #[.int .u64 6, .int .u64 o0, .int .u64 o1, .int .u64 o2] 25)
    have B2 := Lib.hid (b2.trans (hb.mono (by simp; omega)))
    have s2 := hb.size
    simp at s2
    have l3 : w1.heap.size < w2.heap.size := by omega
    have l4 : w.heap.size < w2.heap.size := by omega
    obtain ⟨x0, x1, x2, x3, x4⟩ := cells5 hx
    obtain ⟨y0, _, _, _⟩ := cells4 hc2
    clear hb hx hc2 b2 k0 k1 k2 k3 q0 q1 q2
    go_wp2_with fail
    refine (wakes_ok _).mono ?_
    rintro e w3 ⟨rfl, hb⟩
    have B3 := Lib.hid hb
    clear hb
    go_wp2_with fail
    go_ret
    have b3 := B2.out.alloc B2.out.size (.cells #[.int .i8 (pK 6 a0 a1 a2), .int .u64 (pF 6 a0 a1 a2), .int .i64 (pC 6 a0 a1 a2), .bool (pW 6 a0 a1 a2), .int .i64 (pP 6 a0 a1 a2)] 28)
    exact ⟨rfl, b3.trans (B3.out.mono b3.size)⟩
  have t6 : (nu == 6) = false := by simpa using n6
  have u6 : (nu != 6) = true := by simpa using n6
  by_cases n7 : nu = 7
  · subst n7
    have S := same7 a0 a1 a2 o1 o2
    go_wp2_with fail
    refine (parse_any 7 a0 o1 o2 _ h0 c0 c1 f0 f1).mono ?_
    rw [S.k, S.f, S.c, S.w, S.p, S.e]
    rintro e w2 ⟨rfl, hb⟩
    have hx : w2.heap[w1.heap.size]? = some (.cells #[.int .i8 (pK 7 a0 a1 a2), .int .u64 (pF 7 a0 a1 a2), .int .i64 (pC 7 a0 a1 a2), .bool (pW 7 a0 a1 a2), .int .i64 (pP 7 a0 a1 a2)] 28 (0, 0)) := by
      rw [hb.block _ (by simp; omega), Below.heap_alloc _ _ _ (by simp), heap_alloc_new]
    have hc2 : w2.heap[w.heap.size]? = some (.cells #[.int .u64 7, .int .u64 a0, .int .u64 a1, .int .u64 a2] 25 (0, 0)) := by
      rw [hb.block _ (by simp; omega), Below.heap_alloc _ _ _ (by simp; omega), Below.heap_alloc _ _ _ (by omega), HK1.out]
    have b2 := (B1.out.alloc B1.out.size (.cells #[.int .i8 (pK 7 a0 a1 a2), .int .u64 (pF 7 a0 a1 a2), .int .i64 (pC 7 a0 a1 a2), .bool (pW 7 a0 a1 a2), .int .i64 (pP 7 a0 a1 a2)] 28)).alloc (by simp; omega) (.cells #[.int .u64 7, .int .u64 a0, .int .u64 o1, .int .u64 o2] 25)
    have B2 := Lib.hid (b2.trans (hb.mono (by simp; omega)))
    have s2 := hb.size
    simp at s2
    have l3 : w1.heap.size < w2.heap.size := by omega
    have l4 : w.heap.size < w2.heap.size := by omega
    obtain ⟨x0, x1, x2, x3, x4⟩ := cells5 hx
    obtain ⟨y0, _, _, _⟩ := cells4 hc2
    clear hb hx hc2 b2 k0 k1 k2 k3 q0 q1 q2
    go_wp2_with fail
    refine (wakes_ok _).mono ?_
    rintro e w3 ⟨rfl, hb⟩
    have B3 := Lib.hid hb
    clear hb
    go_wp2_with fail
    go_ret
    have b3 := B2.out.alloc B2.out.size (.cells #[.int .i8 (pK 7 a0 a1 a2), .int .u64 (pF 7 a0 a1 a2), .int .i64 (pC 7 a0 a1 a2), .bool (pW 7 a0 a1 a2), .int .i64 (pP 7 a0 a1 a2)] 28)
    exact ⟨rfl, b3.trans (B3.out.mono b3.size)⟩
  have t7 : (nu == 7) = false := by simpa using n7
  clear n2 n4 n5 n6 n7
  go_wp2_with fail
  refine (parse_any nu a0 a1 a2 _ h0 c0 c1 d0 d1).mono ?_
  
  rintro e w2 ⟨rfl, hb⟩
  have hx : w2.heap[w1.heap.size]? = some (.cells #[.int .i8 (pK nu a0 a1 a2), .int .u64 (pF nu a0 a1 a2), .int .i64 (pC nu a0 a1 a2), .bool (pW nu a0 a1 a2), .int .i64 (pP nu a0 a1 a2)] 28 (0, 0)) := by
    rw [hb.block _ (by simp; omega), Below.heap_alloc _ _ _ (by simp), heap_alloc_new]
  have hc2 : w2.heap[w.heap.size]? = some (.cells #[.int .u64 nu, .int .u64 a0, .int .u64 a1, .int .u64 a2] 25 (0, 0)) := by
    rw [hb.block _ (by simp; omega), Below.heap_alloc _ _ _ (by simp; omega), Below.heap_alloc _ _ _ (by omega), HK1.out]
  have b2 := (B1.out.alloc B1.out.size (.cells #[.int .i8 (pK nu a0 a1 a2), .int .u64 (pF nu a0 a1 a2), .int .i64 (pC nu a0 a1 a2), .bool (pW nu a0 a1 a2), .int .i64 (pP nu a0 a1 a2)] 28)).alloc (by simp; omega) (.cells #[.int .u64 nu, .int .u64 a0, .int .u64 a1, .int .u64 a2] 25)
  have B2 := Lib.hid (b2.trans (hb.mono (by simp; omega)))
  have s2 := hb.size
  simp at s2
  have l3 : w1.heap.size < w2.heap.size := by omega
  have l4 : w.heap.size < w2.heap.size := by omega
  obtain ⟨x0, x1, x2, x3, x4⟩ := cells5 hx
  obtain ⟨y0, _, _, _⟩ := cells4 hc2
  clear hb hx hc2 b2 k0 k1 k2 k3 q0 q1 q2
  go_wp2_with fail
  refine (wakes_ok _).mono ?_
  rintro e w3 ⟨rfl, hb⟩
  have B3 := Lib.hid hb
  clear hb
  go_wp2_with fail
  go_ret
  have b3 := B2.out.alloc B2.out.size (.cells #[.int .i8 (pK nu a0 a1 a2), .int .u64 (pF nu a0 a1 a2), .int .i64 (pC nu a0 a1 a2), .bool (pW nu a0 a1 a2), .int .i64 (pP nu a0 a1 a2)] 28)
  exact ⟨rfl, b3.trans (B3.out.mono b3.size)⟩

namespace callLoose
theorem laid : laidOutB Try.prog = true := by kernel_rfl
theorem own : ownKnob Try.prog.godebug = none := by kernel_rfl
theorem lifted (os : Os) (started : os.Started) (H : Type) (enc : TypeId × Value → H) :
    ReturnsInHanded {} Try.checked os 3 .any (Rows.callLooseSpec.pre6 enc Try.prog Try.f3 Rows.callLooseRow.domain false) (Rows.callLooseSpec.post enc Try.prog Try.f3 false true false false) := by
  refine returnsInHanded_of_change (C := Try.checked) own started (by kernel_rfl) Try.func3
    (ChangeSpec.witness6 (enc := enc) (C := Try.checked) false ⟨#[], #[.agg #[.int .u64 0, .int .u64 0, .int .u64 0, .int .u64 0], .agg #[.int .u64 0, .int .u64 0, .int .u64 0]], []⟩ 8 (by kernel_rfl) (by kernel_rfl) (by kernel_rfl) (by kernel_rfl)) ?_
  intro W base args ds gs before hval0 hW hcnd _
  have hval : ∀ (j : Nat) t v, Try.f3.params[j]? = some t → args[j]? = some v → Value.okWide Try.prog W .any base t v := hval0
  have hW' := hW
  obtain ⟨p, q, hA0, hV, rfl, hfz, hnd⟩ := hW
  have hA : DataW.TrodAll enc Try.prog W 0 (fun _ => true) true Try.f3.params.toList args.toList ds p := hA0
  rw [Try.params3] at hA hval
  obtain ⟨v0, vs0, d0, ds0, p0, q0, hargs, rfl, rfl, h0, r0⟩ := trodAll_cons hA
  obtain ⟨v1, vs1, d1, ds1, p1, q1, rfl, rfl, rfl, h1, r1⟩ := trodAll_cons r0
  obtain ⟨rfl, rfl, rfl⟩ := trodAll_nil r1
  obtain rfl : args = #[v0, v1] := by cases args; simp_all
  obtain ⟨rfl, rfl⟩ := trodVars_none hV
  obtain ⟨fuel0, hf0⟩ := h0
  obtain ⟨fuel1, hf1⟩ := h1
  obtain ⟨nu, a, b, c, hc, x0, x1, x2, x3⟩ := call_cells hf0
  obtain ⟨oa, ob, oc, ho, y0, y1, y2⟩ := arr3_cells hf1
  obtain rfl := agg_of Try.underlying25 (hval 0 25 v0 rfl rfl) hc
  obtain rfl := agg_of_array Try.underlying23 (hval 1 23 v1 rfl rfl) ho
  refine (loose_walk nu a b c oa ob oc W (Go.bounds_u64 x0).1 (Go.bounds_u64 x1).1 (Go.bounds_u64 x1).2 (Go.bounds_u64 x2).1 (Go.bounds_u64 x2).2 (Go.bounds_u64 y0).1 (Go.bounds_u64 y0).2 (Go.bounds_u64 y1).1 (Go.bounds_u64 y1).2).mono fun e W' ⟨he, hg⟩ => ?_
  subst he
  exact ⟨_, rfl, law_post laid hW' rfl (by decide +kernel) rfl rfl Try.underlying4 hg⟩

theorem over : Rows.callLooseRow.holds Try.pinned (OpenSpec.ofChange Rows.callLooseSpec) :=
  OpenClaim.holds_of_wide 3 Try.f3 rfl rfl rfl rfl rfl rfl rfl ⟨rfl, rfl, rfl, rfl, rfl⟩ rfl rfl rfl rfl rfl (by kernel_rfl) Try.func3 (by kernel_rfl)
    (of_decide_eq_true (by kernel_rfl)) (by unfold Func.isWrapper; first | (rw [if_pos (by decide +kernel)]; kernel_rfl) | (rw [if_neg (by decide +kernel)]; exact ⟨rfl, rfl⟩))
    (fun os started H enc _ => lifted os started H enc)
end callLoose

/-- THE STATEMENT. -/
theorem callLoose_proved : Rows.CallLooseSaid := callLoose.over
#print axioms callLoose_proved
end Go.Proofs.Ytgfnefcgpdkljaa
