/- Contracts of the document's answer for layer 10: Is, Wrote, Block. -/
import Derived.Test.YtnogeejfhojcnaaR1
namespace Go.Proofs.Ytnogeejfhojcnaa
open Go.ChangeShapes Go.WideShapes Go.ChangeAt Go.RowKit

def aIs (n c word : Int) (m : Nat → Option Int) : Bool := okc n c && isB (m (c.toNat - 1)) word
theorem aIs_of (n c word : Int) (m : Nat → Option Int) : aIs n c word m = (aHas n c m && (aWord n c m == word)) := by
  unfold aIs aHas aWord
  rw [isB_of]
  cases okc n c <;> simp

theorem ris (b : Nat) (n c word : Int) (m : Nat → Option Int) (w : World) (hr : Ref w b n m) (h8 : n ≤ 8) :
    Calls Try.prog 28 #[.pointer (some ⟨b, 0, none⟩), .int .i64 c, .int .u64 word] w fun e w' => e = .returned (.bool (aIs n c word m)) ∧ Ref w' b n m ∧ w.grownBy w' (some b) := by
  have HR := Lib.hid hr
  clear hr
  rw [aIs_of]
  go_enter Try.func28, Try.ntmps28
  go_wp2_with fail
  refine (rof b n c m _ HR.out h8).mono ?_
  rintro e w1 ⟨rfl, hr1, hg1⟩
  have HR1 := Lib.hid hr1; have HG1 := Lib.hid hg1
  clear hr1 hg1
  cases hh : aHas n c m
  · have HH := Lib.hid hh
    clear hh
    go_wp2_with fail
    go_ret
    exact ⟨by rw [HH.out]; rfl, HR1.out, HG1.out⟩
  · have HH := Lib.hid hh
    clear hh
    go_wp2_with fail
    go_ret
    exact ⟨by rw [HH.out]; rfl, HR1.out, HG1.out⟩

def loseTo (m : Nat → Option Int) (c : Int) (hit : Int → Bool) (k : Nat) : Nat → Option Int := fun j => if j + 1 < k ∧ (j : Int) ≠ c - 1 ∧ (m j).any hit = true then none else m j
theorem loseTo_one (m : Nat → Option Int) (c : Int) (hit : Int → Bool) : loseTo m c hit 1 = m := by
  funext j; simp [loseTo]
theorem loseTo_skip (m : Nat → Option Int) (c : Int) (hit : Int → Bool) (k : Nat) (h : (k : Int) = c ∨ (m (k - 1)).any hit = false) (h1 : 1 ≤ k) : loseTo m c hit (k + 1) = loseTo m c hit k := by
  funext j
  simp only [loseTo]
  by_cases hj : j + 1 = k
  · have hjk : k - 1 = j := by omega
    rw [hjk] at h
    rcases h with h | h
    · rw [if_neg (by omega), if_neg (by omega)]
    · rw [if_neg (by simp [h]), if_neg (by simp [h])]
  · have e : (j + 1 < k + 1) = (j + 1 < k) := by simp; omega
    simp only [e]
theorem loseTo_hit (m : Nat → Option Int) (c : Int) (hit : Int → Bool) (k : Nat) (h : (k : Int) ≠ c) (h' : (m (k - 1)).any hit = true) (h1 : 1 ≤ k) : loseTo m c hit (k + 1) = updm (loseTo m c hit k) (k - 1) none := by
  funext j
  simp only [loseTo, updm]
  by_cases hj : j = k - 1
  · subst hj
    rw [if_pos ⟨by omega, by omega, h'⟩, if_pos rfl]
  · rw [if_neg hj]
    have e : (j + 1 < k + 1) = (j + 1 < k) := by simp; omega
    simp only [e]
theorem loseTo_at (m : Nat → Option Int) (c : Int) (hit : Int → Bool) (k : Nat) (h1 : 1 ≤ k) : loseTo m c hit k (k - 1) = m (k - 1) := by
  simp only [loseTo]
  rw [if_neg (by omega)]
theorem loseTo_end (m : Nat → Option Int) (c : Int) (hit : Int → Bool) (k : Nat) (hm : ∀ j, k ≤ j + 1 → m j = none) : loseTo m c hit k = lose m c hit := by
  funext j
  simp only [loseTo, lose]
  by_cases hj : j + 1 < k
  · simp [hj]
  · rw [if_neg (by omega), hm j (by omega)]
    simp

def nWrote (n c word : Int) (m : Nat → Option Int) : Nat → Option Int := if okc n c = true then lose m c (fun v => v == word) else m

theorem isB_any (q : Option Int) (word : Int) : isB q word = q.any (fun v => v == word) := by
  cases q <;> simp [isB]

theorem rwrote (b : Nat) (n c word : Int) (m : Nat → Option Int) (w : World) (hr : Ref w b n m) (h0 : 1 ≤ n) (h8 : n ≤ 8) (hm : ∀ j : Nat, n ≤ j → m j = none) :
    Calls Try.prog 25 #[.pointer (some ⟨b, 0, none⟩), .int .i64 c, .int .u64 word] w fun e w' => e = .returned (.int .i64 (code (okc n c))) ∧ Ref w' b n (nWrote n c word m) ∧ w.grownBy w' (some b) := by
  have HR := Lib.hid hr
  have HM := Lib.hid hm
  clear hr hm
  cases ho : okc n c
  · have HO := Lib.hid ho
    clear ho
    go_enter Try.func25, Try.ntmps25
    go_wp2_with fail
    refine (rcore b n c m _ HR.out).mono ?_
    rw [HO.out]
    rintro e w' ⟨rfl, rfl⟩
    go_wp2_with fail
    go_ret
    exact ⟨rfl, by simpa [nWrote, HO.out] using HR.out, World.grownBy.refl _ _⟩
  · obtain ⟨h1, h2⟩ := okc_true ho
    have HO := Lib.hid ho
    clear ho
    go_enter Try.func25, Try.ntmps25
    go_wp2_with fail
    refine (rcore b n c m _ HR.out).mono ?_
    rw [HO.out]
    rintro e w' ⟨rfl, rfl⟩
    go_wp2_with fail
    go_loopw [7] (fun i wr => ∃ k : Nat, 1 ≤ k ∧ (k : Int) ≤ n + 1 ∧ i = .int .i64 k ∧ Ref wr b n (loseTo m c (fun v => v == word) k) ∧ w.grownBy wr (some b)) (fun i _ => 9 - (intOf i).toNat)
    case atStart => exact ⟨1, by omega, by omega, rfl, by rw [loseTo_one]; exact HR.out, World.grownBy.refl _ _⟩
    case round =>
      obtain ⟨k, hk1, hk2, rfl, hrk, hg⟩ := hrel
      have hc0 := hrk.cell0
      have HRK := Lib.hid hrk; have HG := Lib.hid hg
      clear hrk hg
      by_cases hkn : (k : Int) ≤ n
      · by_cases hkc : (k : Int) = c
        · have hd : ((k : Int) != c) = false := by simpa using hkc
          have HKC := Lib.hid hkc
          clear hkc
          go_wp2_with fail
          go_roundw
          case rel => exact ⟨k + 1, by omega, by omega, by go_num, by rw [loseTo_skip _ _ _ _ (.inl HKC.out) hk1]; exact HRK.out, HG.out⟩
          case measure => simp [intOf]; omega
        · have hd : ((k : Int) != c) = true := by simpa using hkc
          have HKC := Lib.hid hkc
          clear hkc
          go_wp2_with fail
          refine (ris b n k word _ _ HRK.out h8).mono ?_
          have hok : okc n k = true := by simp [okc]; omega
          have hval : aIs n k word (loseTo m c (fun v => v == word) k) = (m (k - 1)).any (fun v => v == word) := by
            simp only [aIs, hok, Int.toNat_natCast, loseTo_at _ _ _ _ hk1, isB_any, Bool.true_and]
          rw [hval]
          rintro e w1 ⟨rfl, hr1, hg1⟩
          have HR1 := Lib.hid hr1; have HG1 := Lib.hid (grown_trans HG.out hg1); have HOK := Lib.hid hok
          clear hr1 hg1 hval hok hc0
          cases hany : (m (k - 1)).any (fun v => v == word)
          · have HA := Lib.hid hany
            clear hany
            go_wp2_with fail
            go_roundw
            case rel => exact ⟨k + 1, by omega, by omega, by go_num, by rw [loseTo_skip _ _ _ _ (.inr HA.out) hk1]; exact HR1.out, HG1.out⟩
            case measure => simp [intOf]; omega
          · have HA := Lib.hid hany
            clear hany
            go_wp2_with fail
            refine (rclear b n k _ _ HR1.out h8).mono ?_
            rintro e w2 ⟨rfl, hr2, hg2⟩
            have HR2 := Lib.hid hr2; have HG2 := Lib.hid (grown_trans HG1.out hg2)
            clear hr2 hg2
            go_wp2_with fail
            go_roundw
            case rel =>
              refine ⟨k + 1, by omega, by omega, by go_num, ?_, HG2.out⟩
              rw [loseTo_hit _ _ _ _ HKC.out HA.out hk1]
              have := HR2.out
              simpa only [nClear, HOK.out, if_true, Int.toNat_natCast] using this
            case measure => simp [intOf]; omega
      · go_wp2_with fail
        go_ret
        refine ⟨rfl, ?_, HG.out⟩
        have e1 : nWrote n c word m = lose m c (fun v => v == word) := by simp [nWrote, HO.out]
        rw [e1, ← loseTo_end m c _ k (fun j hj => HM.out j (by omega))]
        exact HRK.out
end Go.Proofs.Ytnogeejfhojcnaa
