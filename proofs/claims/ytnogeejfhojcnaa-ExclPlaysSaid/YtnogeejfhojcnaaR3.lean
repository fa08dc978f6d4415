/- Contracts of the document's answer for layer 10: Block, Reach, New. -/
import Derived.Test.YtnogeejfhojcnaaR2
namespace Go.Proofs.Ytnogeejfhojcnaa
open Go.ChangeShapes Go.WideShapes Go.ChangeAt Go.RowKit

def okf (n c f : Int) : Bool := okc n c && (decide (0 ≤ f) && decide (f ≤ 1048576))
def nBlock (n c f : Int) (m : Nat → Option Int) : Nat → Option Int := if okf n c f = true then lose m c (fun v => v / 512 == f) else m

theorem okf_true {n c f : Int} (h : okf n c f = true) : okc n c = true ∧ 0 ≤ f ∧ f ≤ 1048576 := by simpa [okf] using h

theorem any_div (q : Option Int) (f : Int) : q.any (fun v => v / 512 == f) = (ofHas q && (ofWord q / 512 == f)) := by
  cases q <;> simp [ofHas, ofWord]

theorem rblock (b : Nat) (n c f : Int) (m : Nat → Option Int) (w : World) (hr : Ref w b n m) (h0 : 1 ≤ n) (h8 : n ≤ 8) (hm : ∀ j : Nat, n ≤ j → m j = none) (hv : ∀ (j : Nat), 0 ≤ ofWord (m j) ∧ ofWord (m j) ≤ 18446744073709551615) :
    Calls Try.prog 26 #[.pointer (some ⟨b, 0, none⟩), .int .i64 c, .int .i64 f] w fun e w' => e = .returned (.int .i64 (code (okf n c f))) ∧ Ref w' b n (nBlock n c f m) ∧ w.grownBy w' (some b) := by
  have HR := Lib.hid hr
  have HM := Lib.hid hm
  have HV := Lib.hid hv
  clear hr hm hv
  cases ho : okf n c f
  · have HO := Lib.hid ho
    have hx : okc n c = false ∨ (okc n c = true ∧ f < 0) ∨ (okc n c = true ∧ 0 ≤ f ∧ 1048576 < f) := by
      cases hoc : okc n c
      · exact .inl rfl
      · simp only [okf, hoc, Bool.true_and, Bool.and_eq_false_iff, decide_eq_false_iff_not] at ho
        by_cases h1 : f < 0
        · exact .inr (.inl ⟨rfl, h1⟩)
        · exact .inr (.inr ⟨rfl, by omega, by omega⟩)
    clear ho
    rcases hx with hx | ⟨hx, hf⟩ | ⟨hx, hf0, hf⟩
    · have HX := Lib.hid hx
      clear hx
      go_enter Try.func26, Try.ntmps26
      go_wp2_with fail
      refine (rcore b n c m _ HR.out).mono ?_
      rw [HX.out]
      rintro e w' ⟨rfl, rfl⟩
      go_wp2_with fail
      go_ret
      exact ⟨rfl, by simpa [nBlock, HO.out] using HR.out, World.grownBy.refl _ _⟩
    · have HX := Lib.hid hx
      clear hx
      have hd1 : decide (f < 0) = true := by simpa using hf
      go_enter Try.func26, Try.ntmps26
      go_wp2_with fail
      refine (rcore b n c m _ HR.out).mono ?_
      rw [HX.out]
      rintro e w' ⟨rfl, rfl⟩
      go_wp2_with fail
      go_ret
      exact ⟨rfl, by simpa [nBlock, HO.out] using HR.out, World.grownBy.refl _ _⟩
    · have HX := Lib.hid hx
      clear hx
      have hd1 : decide (f < 0) = false := by simp; omega
      have hd2 : decide (1048576 < f) = true := by simpa using hf
      go_enter Try.func26, Try.ntmps26
      go_wp2_with fail
      refine (rcore b n c m _ HR.out).mono ?_
      rw [HX.out]
      rintro e w' ⟨rfl, rfl⟩
      go_wp2_with fail
      go_ret
      exact ⟨rfl, by simpa [nBlock, HO.out] using HR.out, World.grownBy.refl _ _⟩
  · obtain ⟨hoc, hf0, hf1⟩ := okf_true ho
    obtain ⟨h1, h2⟩ := okc_true hoc
    have HO := Lib.hid ho
    have HOC := Lib.hid hoc
    clear ho hoc
    have hd1 : decide (f < 0) = false := by simp; omega
    have hd2 : decide (1048576 < f) = false := by simp; omega
    go_enter Try.func26, Try.ntmps26
    go_wp2_with fail
    refine (rcore b n c m _ HR.out).mono ?_
    rw [HOC.out]
    rintro e w' ⟨rfl, rfl⟩
    go_wp2_with fail
    go_loopw [7] (fun i wr => ∃ k : Nat, 1 ≤ k ∧ (k : Int) ≤ n + 1 ∧ i = .int .i64 k ∧ Ref wr b n (loseTo m c (fun v => v / 512 == f) k) ∧ w.grownBy wr (some b)) (fun i _ => 9 - (intOf i).toNat)
    case atStart => exact ⟨1, by omega, by omega, rfl, by rw [loseTo_one]; exact HR.out, World.grownBy.refl _ _⟩
    case round =>
      obtain ⟨k, hk1, hk2, rfl, hrk, hg⟩ := hrel
      have hc0 := hrk.cell0
      have HRK := Lib.hid hrk; have HG := Lib.hid hg
      clear hrk hg
      by_cases hkn : (k : Int) ≤ n
      · by_cases hkc : (k : Int) = c
        · have hd : ((k : Int) != c) = false := by simpa using hkc
          have HKC := Lib.hid hkc
          clear hkc
          go_wp2_with fail
          go_roundw
          case rel => exact ⟨k + 1, by omega, by omega, by go_num, by rw [loseTo_skip _ _ _ _ (.inl HKC.out) hk1]; exact HRK.out, HG.out⟩
          case measure => simp [intOf]; omega
        · have hd : ((k : Int) != c) = true := by simpa using hkc
          have HKC := Lib.hid hkc
          clear hkc
          have hhas := HRK.out.has k hk1 (by omega)
          have hword := HRK.out.word k hk1 (by omega)
          rw [loseTo_at _ _ _ _ hk1] at hhas hword
          have hany := any_div (m (k - 1)) f
          obtain ⟨hv0, hv1⟩ := HV.out (k - 1)
          have HANY := Lib.hid hany
          clear hany
          have hok : okc n k = true := by simp [okc]; omega
          have HOK := Lib.hid hok
          clear hok
          cases hh : ofHas (m (k - 1))
          · rw [hh] at hhas
            have HA : Hid ((m (k - 1)).any (fun v => v / 512 == f) = false) := by
              have := HANY.out
              rw [hh] at this
              exact this
            clear hh
            go_wp2_with fail
            go_roundw
            case rel => exact ⟨k + 1, by omega, by omega, by go_num, by rw [loseTo_skip _ _ _ _ (.inr HA.out) hk1]; exact HRK.out, HG.out⟩
            case measure => simp [intOf]; omega
          · rw [hh] at hhas
            cases hq : (ofWord (m (k - 1)) / 512 == f)
            · have HA : Hid ((m (k - 1)).any (fun v => v / 512 == f) = false) := by
                have := HANY.out
                rw [hh, hq] at this
                exact this
              clear hh
              go_wp2_with fail
              go_roundw
              case rel => exact ⟨k + 1, by omega, by omega, by go_num, by rw [loseTo_skip _ _ _ _ (.inr HA.out) hk1]; exact HRK.out, HG.out⟩
              case measure => simp [intOf]; omega
            · have HA : Hid ((m (k - 1)).any (fun v => v / 512 == f) = true) := by
                have := HANY.out
                rw [hh, hq] at this
                exact this
              clear hh
              go_wp2_with fail
              refine (rclear b n k _ _ HRK.out h8).mono ?_
              rintro e w2 ⟨rfl, hr2, hg2⟩
              have HR2 := Lib.hid hr2; have HG2 := Lib.hid (grown_trans HG.out hg2)
              clear hr2 hg2 hhas hword
              go_wp2_with fail
              go_roundw
              case rel =>
                refine ⟨k + 1, by omega, by omega, by go_num, ?_, HG2.out⟩
                rw [loseTo_hit _ _ _ _ HKC.out HA.out hk1]
                have := HR2.out
                simpa only [nClear, HOK.out, if_true, Int.toNat_natCast] using this
              case measure => simp [intOf]; omega
      · go_wp2_with fail
        go_ret
        refine ⟨rfl, ?_, HG.out⟩
        have e1 : nBlock n c f m = lose m c (fun v => v / 512 == f) := by simp [nBlock, HO.out]
        rw [e1, ← loseTo_end m c _ k (fun j hj => HM.out j (by omega))]
        exact HRK.out

theorem rnew (n : Int) (w : World) (h1 : 1 ≤ n) (h2 : n ≤ 8) :
    Calls Try.prog 14 #[.int .i64 n] w fun e w' => ∃ b, e = .returned (.tuple #[.pointer (some ⟨b, 0, none⟩), .int .i64 0]) ∧ Ref w' b n (fun _ => none) ∧ w.heap.size = b ∧ Below w.heap.size w w' ∧ b < w'.heap.size := by
  have hc : decide (n < 1) = false := by simp; omega
  have hd : decide (8 < n) = false := by simp; omega
  go_enter Try.func14, Try.ntmps14
  go_wp2
  go_ret2
  refine ⟨w.heap.size, rfl, ?_, rfl, (Below.refl _ _).alloc (Nat.le_refl _) _, by simp⟩
  exact heap_alloc_new _ _

theorem rnew_bad (n : Int) (w : World) (h : n < 1 ∨ 8 < n) :
    Calls Try.prog 14 #[.int .i64 n] w fun e w' => e = .returned (.tuple #[.pointer none, .int .i64 2]) ∧ w = w' := by
  by_cases h1 : n < 1
  · have hc : decide (n < 1) = true := by simpa using h1
    clear h
    go_enter Try.func14, Try.ntmps14
    go_wp2
    go_ret2
    exact ⟨rfl, rfl⟩
  · have hc : decide (n < 1) = false := by simpa using h1
    have hd : decide (8 < n) = true := by simp; omega
    clear h
    go_enter Try.func14, Try.ntmps14
    go_wp2
    go_ret2
    exact ⟨rfl, rfl⟩
theorem new_bad (n : Int) (w : World) (h : n < 1 ∨ 8 < n) :
    Calls Try.prog 7 #[.int .i64 n] w fun e w' => e = .returned (.tuple #[.pointer none, .int .i64 2]) ∧ w = w' := by
  by_cases h1 : n < 1
  · have hc : decide (n < 1) = true := by simpa using h1
    clear h
    go_enter Try.func7, Try.ntmps7
    go_wp2
    go_ret2
    exact ⟨rfl, rfl⟩
  · have hc : decide (n < 1) = false := by simpa using h1
    have hd : decide (8 < n) = true := by simp; omega
    clear h
    go_enter Try.func7, Try.ntmps7
    go_wp2
    go_ret2
    exact ⟨rfl, rfl⟩
end Go.Proofs.Ytnogeejfhojcnaa
