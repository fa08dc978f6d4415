/- Layer 10: total contracts of the program's functions, and Reach of both. -/
import Derived.Test.YtnogeejfhojcnaaR3
namespace Go.Proofs.Ytnogeejfhojcnaa
open Go.ChangeShapes Go.WideShapes Go.ChangeAt Go.RowKit

/-- core, whatever the number. -/
theorem core_any (b : Nat) (n c : Int) (w : World) (hn : w.cell? ⟨b, 0, none⟩ = some (.int .i64 n)) :
    Calls Try.prog 19 #[.pointer (some ⟨b, 0, none⟩), .int .i64 c] w fun e w' => e = .returned (.int .i64 (code (okc n c))) ∧ w = w' := by
  cases ho : okc n c
  · rcases okc_false ho with h | h
    · exact core_low b n c w hn h
    · by_cases h1 : 1 ≤ c
      · exact core_high b n c w hn h1 h
      · exact core_low b n c w hn (by omega)
  · obtain ⟨h1, h2⟩ := okc_true ho
    exact core_ok b n c w hn h1 h2

theorem xset (b : Nat) (n c word : Int) (m : Nat → Option Int) (w : World) (hm : Mon w b n m) (h8 : n ≤ 8) (h4 : 0 ≤ word) (h5 : word ≤ 18446744073709551615) :
    Calls Try.prog 8 #[.pointer (some ⟨b, 0, none⟩), .int .i64 c, .int .u64 word] w fun e w' => e = .returned (.int .i64 (code (okc n c))) ∧ Mon w' b n (nSet n c word m) ∧ w.grownBy w' (some b) := by
  cases ho : okc n c
  · have HO := Lib.hid ho; have HM := Lib.hid hm
    clear ho hm
    go_enter Try.func8, Try.ntmps8
    go_wp2_with fail
    refine (core_any b n c _ HM.out.cell0).mono ?_
    rw [HO.out]
    rintro e w' ⟨rfl, rfl⟩
    simp only [code, Bool.false_eq_true, if_false]
    go_wp2_with fail
    go_ret
    exact ⟨rfl, by simpa [nSet, HO.out] using HM.out, World.grownBy.refl _ _⟩
  · obtain ⟨h1, h2⟩ := okc_true ho
    refine (set_ok b n c word m w hm h1 h2 h8 h4 h5).mono ?_
    rintro e w' ⟨rfl, hM, hg⟩
    exact ⟨rfl, by simpa [nSet, ho] using hM, hg⟩

theorem xclear (b : Nat) (n c : Int) (m : Nat → Option Int) (w : World) (hm : Mon w b n m) (h8 : n ≤ 8) :
    Calls Try.prog 13 #[.pointer (some ⟨b, 0, none⟩), .int .i64 c] w fun e w' => e = .returned (.int .i64 (code (okc n c))) ∧ Mon w' b n (nClear n c m) ∧ w.grownBy w' (some b) := by
  cases ho : okc n c
  · have HO := Lib.hid ho; have HM := Lib.hid hm
    clear ho hm
    go_enter Try.func13, Try.ntmps13
    go_wp2_with fail
    refine (core_any b n c _ HM.out.cell0).mono ?_
    rw [HO.out]
    rintro e w' ⟨rfl, rfl⟩
    simp only [code, Bool.false_eq_true, if_false]
    go_wp2_with fail
    go_ret
    exact ⟨rfl, by simpa [nClear, HO.out] using HM.out, World.grownBy.refl _ _⟩
  · obtain ⟨h1, h2⟩ := okc_true ho
    refine (clear_ok b n c m w hm h1 h2 h8).mono ?_
    rintro e w' ⟨rfl, hM, hg⟩
    exact ⟨rfl, by simpa [nClear, ho] using hM, hg⟩

theorem xwrote (b : Nat) (n c word : Int) (m : Nat → Option Int) (w : World) (hm : Mon w b n m) (h8 : n ≤ 8) :
    Calls Try.prog 9 #[.pointer (some ⟨b, 0, none⟩), .int .i64 c, .int .u64 word] w fun e w' => e = .returned (.int .i64 (code (okc n c))) ∧ Mon w' b n (nWrote n c word m) ∧ w.grownBy w' (some b) := by
  cases ho : okc n c
  · have HO := Lib.hid ho; have HM := Lib.hid hm
    clear ho hm
    go_enter Try.func9, Try.ntmps9
    go_wp2_with fail
    refine (core_any b n c _ (HM.out.alloc _).cell0).mono ?_
    rw [HO.out]
    rintro e w' ⟨rfl, rfl⟩
    simp only [code, Bool.false_eq_true, if_false]
    go_wp2_with fail
    go_ret
    have e1 : nWrote n c word m = m := by simp [nWrote, HO.out]
    rw [e1]
    exact ⟨rfl, HM.out.alloc _, only_alloc (World.grownBy.refl _ _) _⟩
  · obtain ⟨h1, h2⟩ := okc_true ho
    refine (wrote_ok b n c word m w hm h1 h2 h8).mono ?_
    rintro e w' ⟨rfl, hM, hg⟩
    exact ⟨rfl, by simpa [nWrote, ho] using hM, hg⟩

theorem xblock (b : Nat) (n c f : Int) (m : Nat → Option Int) (w : World) (hm : Mon w b n m) (h8 : n ≤ 8) :
    Calls Try.prog 11 #[.pointer (some ⟨b, 0, none⟩), .int .i64 c, .int .i64 f] w fun e w' => e = .returned (.int .i64 (code (okf n c f))) ∧ Mon w' b n (nBlock n c f m) ∧ w.grownBy w' (some b) := by
  cases ho : okc n c
  · have hof : okf n c f = false := by simp [okf, ho]
    have HO := Lib.hid ho; have HOF := Lib.hid hof; have HM := Lib.hid hm
    clear ho hm hof
    rw [HOF.out]
    go_enter Try.func11, Try.ntmps11
    go_wp2_with fail
    refine (core_any b n c _ (HM.out.alloc _).cell0).mono ?_
    rw [HO.out]
    rintro e w' ⟨rfl, rfl⟩
    simp only [code, Bool.false_eq_true, if_false]
    go_wp2_with fail
    go_ret
    have e1 : nBlock n c f m = m := by simp [nBlock, HOF.out]
    rw [e1]
    exact ⟨rfl, HM.out.alloc _, only_alloc (World.grownBy.refl _ _) _⟩
  · obtain ⟨h1, h2⟩ := okc_true ho
    cases hof : okf n c f
    · have hbad : f < 0 ∨ 1048576 < f := by
        simp only [okf, ho, Bool.true_and, Bool.and_eq_false_iff, decide_eq_false_iff_not] at hof
        omega
      refine (block_bad b n c f m w hm h1 h2 hbad).mono ?_
      rintro e w' ⟨rfl, hM, hg⟩
      exact ⟨rfl, by simpa [nBlock, hof] using hM, hg⟩
    · obtain ⟨_, h4, h5⟩ := okf_true hof
      refine (block_ok b n c f m w hm h1 h2 h8 h4 h5).mono ?_
      rintro e w' ⟨rfl, hM, hg⟩
      exact ⟨rfl, by simpa [nBlock, hof] using hM, hg⟩

theorem xof (b : Nat) (n c : Int) (m : Nat → Option Int) (w : World) (hm : Mon w b n m) (h8 : n ≤ 8) :
    Calls Try.prog 16 #[.pointer (some ⟨b, 0, none⟩), .int .i64 c] w fun e w' => e = .returned (.tuple #[.int .u64 (aWord n c m), .bool (aHas n c m)]) ∧ w = w' := by
  cases ho : okc n c
  · have HO := Lib.hid ho; have HM := Lib.hid hm
    clear ho hm
    go_enter Try.func16, Try.ntmps16
    go_wp2_with fail
    refine (core_any b n c _ HM.out.cell0).mono ?_
    rw [HO.out]
    rintro e w' ⟨rfl, rfl⟩
    simp only [code, Bool.false_eq_true, if_false]
    go_wp2_with fail
    go_ret2
    exact ⟨by simp [aWord, aHas, HO.out], rfl⟩
  · obtain ⟨h1, h2⟩ := okc_true ho
    refine (of_ok b n c m w hm h1 h2 h8).mono ?_
    rintro e w' ⟨rfl, rfl⟩
    exact ⟨by simp [aWord, aHas, ho], rfl⟩

theorem xis (b : Nat) (n c word : Int) (m : Nat → Option Int) (w : World) (hm : Mon w b n m) (h8 : n ≤ 8) :
    Calls Try.prog 10 #[.pointer (some ⟨b, 0, none⟩), .int .i64 c, .int .u64 word] w fun e w' => e = .returned (.bool (aIs n c word m)) ∧ w = w' := by
  have HM := Lib.hid hm
  clear hm
  rw [aIs_of]
  go_enter Try.func10, Try.ntmps10
  go_wp2_with fail
  refine (xof b n c m _ HM.out h8).mono ?_
  rintro e w' ⟨rfl, rfl⟩
  cases hh : aHas n c m
  · have HH := Lib.hid hh
    clear hh
    go_wp2_with fail
    go_ret
    exact ⟨by rw [HH.out]; rfl, rfl⟩
  · have HH := Lib.hid hh
    clear hh
    go_wp2_with fail
    go_ret
    exact ⟨by rw [HH.out]; rfl, rfl⟩

def cReach (n c k fm : Int) : Int := if (k == 0) = true then code (okc n c) else if (k == 2) = true then code (okf n c fm) else if (k == 3) = true then code (okf n c fm) else if (k == 1) = true then code (okc n c) else 2
def nReach (n c k wd fm : Int) (m : Nat → Option Int) : Nat → Option Int := if (k == 0) = true then nWrote n c wd m else if (k == 2) = true then nBlock n c fm m else if (k == 3) = true then nBlock n c fm m else m

/-- The kinds of entries, as the tests ask for them. -/
theorem kinds5 (k : Int) : (k == 0) = true ∨ ((k == 0) = false ∧ (k == 2) = true) ∨ ((k == 0) = false ∧ (k == 2) = false ∧ (k == 3) = true) ∨ ((k == 0) = false ∧ (k == 2) = false ∧ (k == 3) = false ∧ (k == 1) = true) ∨ ((k == 0) = false ∧ (k == 2) = false ∧ (k == 3) = false ∧ (k == 1) = false) := by
  cases k == 0 <;> cases k == 2 <;> cases k == 3 <;> cases k == 1 <;> simp

theorem code_false : code false = 2 := rfl
theorem code_true : code true = 0 := rfl

theorem rreach (b : Nat) (n c k wd vl fr fm : Int) (m : Nat → Option Int) (w : World) (hr : Ref w b n m) (h0 : 1 ≤ n) (h8 : n ≤ 8) (hm : ∀ j : Nat, n ≤ j → m j = none) (hv : ∀ (j : Nat), 0 ≤ ofWord (m j) ∧ ofWord (m j) ≤ 18446744073709551615) :
    Calls Try.prog 27 #[.pointer (some ⟨b, 0, none⟩), .int .i64 c, .agg #[.int .i8 k, .int .u64 wd, .int .u64 vl, .int .i64 fr, .int .i64 fm]] w fun e w' => e = .returned (.int .i64 (cReach n c k fm)) ∧ Ref w' b n (nReach n c k wd fm m) ∧ w.grownBy w' (some b) := by
  have ra : ∀ o, Ref (w.alloc o) b n m := fun o => (Below.heap_alloc _ _ _ hr.lt).trans hr
  have RA := Lib.hid ra; have HM := Lib.hid hm; have HV := Lib.hid hv
  clear hr ra hm hv
  rcases kinds5 k with k0 | ⟨k0, k2⟩ | ⟨k0, k2, k3⟩ | ⟨k0, k2, k3, k1⟩ | ⟨k0, k2, k3, k1⟩
  · simp only [cReach, nReach, k0, if_true]
    go_enter Try.func27, Try.ntmps27
    go_wp2_with fail
    refine (rwrote b n c wd m _ (RA.out _) h0 h8 HM.out).mono ?_
    rintro e w1 ⟨rfl, hr1, hg1⟩
    have HR1 := Lib.hid hr1; have HG1 := Lib.hid hg1
    clear hr1 hg1
    go_wp2_with fail
    go_ret
    exact ⟨rfl, HR1.out, grown_trans (only_alloc (World.grownBy.refl _ _) _) HG1.out⟩
  · simp only [cReach, nReach, k0, k2, if_true, Bool.false_eq_true, if_false]
    go_enter Try.func27, Try.ntmps27
    go_wp2_with fail
    refine (rblock b n c fm m _ (RA.out _) h0 h8 HM.out HV.out).mono ?_
    rintro e w1 ⟨rfl, hr1, hg1⟩
    have HR1 := Lib.hid hr1; have HG1 := Lib.hid hg1
    clear hr1 hg1
    go_wp2_with fail
    go_ret
    exact ⟨rfl, HR1.out, grown_trans (only_alloc (World.grownBy.refl _ _) _) HG1.out⟩
  · simp only [cReach, nReach, k0, k2, k3, if_true, Bool.false_eq_true, if_false]
    go_enter Try.func27, Try.ntmps27
    go_wp2_with fail
    refine (rblock b n c fm m _ (RA.out _) h0 h8 HM.out HV.out).mono ?_
    rintro e w1 ⟨rfl, hr1, hg1⟩
    have HR1 := Lib.hid hr1; have HG1 := Lib.hid hg1
    clear hr1 hg1
    go_wp2_with fail
    go_ret
    exact ⟨rfl, HR1.out, grown_trans (only_alloc (World.grownBy.refl _ _) _) HG1.out⟩
  · simp only [cReach, nReach, k0, k2, k3, k1, if_true, Bool.false_eq_true, if_false]
    cases ho : okc n c
    · have HO := Lib.hid ho
      clear ho
      rw [code_false]
      go_enter Try.func27, Try.ntmps27
      go_wp2_with fail
      refine (rcore b n c m _ (RA.out _)).mono ?_
      rw [HO.out]
      rintro e w1 ⟨rfl, rfl⟩
      go_wp2_with fail
      go_ret
      exact ⟨rfl, RA.out _, only_alloc (World.grownBy.refl _ _) _⟩
    · have HO := Lib.hid ho
      clear ho
      rw [code_true]
      go_enter Try.func27, Try.ntmps27
      go_wp2_with fail
      refine (rcore b n c m _ (RA.out _)).mono ?_
      rw [HO.out]
      rintro e w1 ⟨rfl, rfl⟩
      go_wp2_with fail
      go_ret
      exact ⟨rfl, RA.out _, only_alloc (World.grownBy.refl _ _) _⟩
  · simp only [cReach, nReach, k0, k2, k3, k1, Bool.false_eq_true, if_false]
    go_enter Try.func27, Try.ntmps27
    go_wp2_with fail
    go_ret
    exact ⟨rfl, RA.out _, only_alloc (World.grownBy.refl _ _) _⟩

theorem xreach (b : Nat) (n c k wd vl fr fm : Int) (m : Nat → Option Int) (w : World) (hm : Mon w b n m) (h8 : n ≤ 8) :
    Calls Try.prog 18 #[.pointer (some ⟨b, 0, none⟩), .int .i64 c, .agg #[.int .i8 k, .int .u64 wd, .int .u64 vl, .int .i64 fr, .int .i64 fm]] w fun e w' => e = .returned (.int .i64 (cReach n c k fm)) ∧ Mon w' b n (nReach n c k wd fm m) ∧ w.grownBy w' (some b) := by
  have HM := Lib.hid hm
  clear hm
  cases ho : okc n c
  · have hc : cReach n c k fm = 2 := by
      have hof : okf n c fm = false := by simp [okf, ho]
      rcases kinds5 k with k0 | ⟨k0, k2⟩ | ⟨k0, k2, k3⟩ | ⟨k0, k2, k3, k1⟩ | ⟨k0, k2, k3, k1⟩ <;> simp [cReach, *, code]
    have hn : nReach n c k wd fm m = m := by
      have hof : okf n c fm = false := by simp [okf, ho]
      rcases kinds5 k with k0 | ⟨k0, k2⟩ | ⟨k0, k2, k3⟩ | ⟨k0, k2, k3, k1⟩ | ⟨k0, k2, k3, k1⟩ <;> simp [nReach, *, nWrote, nBlock]
    rw [hc, hn]
    have HO := Lib.hid ho
    clear ho hc hn
    go_enter Try.func18, Try.ntmps18
    go_wp2_with fail
    refine (core_any b n c _ (HM.out.alloc _).cell0).mono ?_
    rw [HO.out]
    rintro e w' ⟨rfl, rfl⟩
    simp only [code, Bool.false_eq_true, if_false]
    go_wp2_with fail
    go_ret
    exact ⟨rfl, HM.out.alloc _, only_alloc (World.grownBy.refl _ _) _⟩
  · have HO := Lib.hid ho
    clear ho
    rcases kinds5 k with k0 | ⟨k0, k2⟩ | ⟨k0, k2, k3⟩ | ⟨k0, k2, k3, k1⟩ | ⟨k0, k2, k3, k1⟩
    · simp only [cReach, nReach, k0, if_true]
      go_enter Try.func18, Try.ntmps18
      go_wp2_with fail
      refine (core_any b n c _ (HM.out.alloc _).cell0).mono ?_
      rw [HO.out]
      rintro e w' ⟨rfl, rfl⟩
      simp only [code, if_true]
      go_wp2_with fail
      refine (xwrote b n c wd m _ (HM.out.alloc _) h8).mono ?_
      rintro e w1 ⟨rfl, hr1, hg1⟩
      have HR1 := Lib.hid hr1; have HG1 := Lib.hid hg1
      clear hr1 hg1
      go_wp2_with fail
      go_ret
      exact ⟨by rw [HO.out]; rfl, HR1.out, grown_trans (only_alloc (World.grownBy.refl _ _) _) HG1.out⟩
    · simp only [cReach, nReach, k0, k2, if_true, Bool.false_eq_true, if_false]
      go_enter Try.func18, Try.ntmps18
      go_wp2_with fail
      refine (core_any b n c _ (HM.out.alloc _).cell0).mono ?_
      rw [HO.out]
      rintro e w' ⟨rfl, rfl⟩
      simp only [code_true]
      go_wp2_with fail
      refine (xblock b n c fm m _ (HM.out.alloc _) h8).mono ?_
      rintro e w1 ⟨rfl, hr1, hg1⟩
      have HR1 := Lib.hid hr1; have HG1 := Lib.hid hg1
      clear hr1 hg1
      go_wp2_with fail
      go_ret
      exact ⟨rfl, HR1.out, grown_trans (only_alloc (World.grownBy.refl _ _) _) HG1.out⟩
    · simp only [cReach, nReach, k0, k2, k3, if_true, Bool.false_eq_true, if_false]
      go_enter Try.func18, Try.ntmps18
      go_wp2_with fail
      refine (core_any b n c _ (HM.out.alloc _).cell0).mono ?_
      rw [HO.out]
      rintro e w' ⟨rfl, rfl⟩
      simp only [code_true]
      go_wp2_with fail
      refine (xblock b n c fm m _ (HM.out.alloc _) h8).mono ?_
      rintro e w1 ⟨rfl, hr1, hg1⟩
      have HR1 := Lib.hid hr1; have HG1 := Lib.hid hg1
      clear hr1 hg1
      go_wp2_with fail
      go_ret
      exact ⟨rfl, HR1.out, grown_trans (only_alloc (World.grownBy.refl _ _) _) HG1.out⟩
    · simp only [cReach, nReach, k0, k2, k3, k1, if_true, Bool.false_eq_true, if_false]
      go_enter Try.func18, Try.ntmps18
      go_wp2_with fail
      refine (core_any b n c _ (HM.out.alloc _).cell0).mono ?_
      rw [HO.out]
      rintro e w' ⟨rfl, rfl⟩
      simp only [code_true]
      go_wp2_with fail
      go_ret
      exact ⟨by rw [HO.out]; rfl, HM.out.alloc _, only_alloc (World.grownBy.refl _ _) _⟩
    · simp only [cReach, nReach, k0, k2, k3, k1, Bool.false_eq_true, if_false]
      go_enter Try.func18, Try.ntmps18
      go_wp2_with fail
      refine (core_any b n c _ (HM.out.alloc _).cell0).mono ?_
      rw [HO.out]
      rintro e w' ⟨rfl, rfl⟩
      simp only [code_true]
      go_wp2_with fail
      go_ret
      exact ⟨rfl, HM.out.alloc _, only_alloc (World.grownBy.refl _ _) _⟩
end Go.Proofs.Ytnogeejfhojcnaa
