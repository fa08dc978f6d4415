/- Layer 17: the document's giver: Gone, Ask. -/
import Derived.Test.YtbdphbkpglhhaaaC1
namespace Go.Proofs.Ytbdphbkpglhhaaa
open Go.ChangeShapes Go.WideShapes Go.ChangeAt Go.RowKit
set_option linter.unusedVariables false

/-- Whom Gone leaves, k gone through. -/
def wiped (f : Nat → Int) (s : Int) (k : Nat) : Nat → Int := fun j => if 1 ≤ j ∧ j < k ∧ f j = s then 0 else f j
theorem wiped_yes {f : Nat → Int} {s : Int} {k : Nat} (h : (f k == s) = true) (hk : 1 ≤ k) (j : Nat) : upd (wiped f s k) k 0 j = wiped f s (k + 1) j := by
  have h' : f k = s := by simpa using h
  unfold upd wiped
  by_cases hj : j = k
  · subst hj; rw [if_pos rfl, if_pos ⟨hk, by omega, h'⟩]
  · rw [if_neg hj]
    have e : (j < k + 1) = (j < k) := by simp; omega
    simp only [e]
theorem wiped_no {f : Nat → Int} {s : Int} {k : Nat} (h : (f k == s) = false) (j : Nat) : wiped f s k j = wiped f s (k + 1) j := by
  have h' : f k ≠ s := by simpa using h
  unfold wiped
  by_cases hj : j = k
  · subst hj; rw [if_neg (by omega), if_neg (fun x => h' x.2.2)]
  · have e : (j < k + 1) = (j < k) := by simp; omega
    simp only [e]
theorem wiped_gone {N : Nat} {f : Nat → Int} (hi : Inj N f) {s : Int} (hs : sOk s = true) (j : Nat) (hj : j < N + 1) : wiped f s (N + 1) j = goneG N f s j := by
  have hs' := sOk_iff.1 hs
  unfold wiped goneG
  by_cases h0 : ofA N f s = 0
  · rw [if_pos h0]
    by_cases hc : 1 ≤ j ∧ j < N + 1 ∧ f j = s
    · exact absurd h0 (ofA_ne hc.1 (by omega) hc.2.2 hs'.1 hs'.2)
    · rw [if_neg hc]
  · obtain ⟨a1, a2, a3, _, _⟩ := ofA_some h0
    rw [if_neg h0]
    unfold upd
    by_cases hc : 1 ≤ j ∧ j < N + 1 ∧ f j = s
    · rw [if_pos hc, if_pos (ofA_at hi hc.1 (by omega) hc.2.2 hs'.1 hs'.2).symm]
    · rw [if_neg hc, if_neg]
      rintro rfl
      exact hc ⟨a1, by omega, a3⟩

theorem rgone_ok (r h N M : Nat) (now : Int) (f : Nat → Int) (s : Int) (w : World) (hg : Rf w r h M now f) (hM : M = N + 1) (hN : N ≤ 16) (hi : Inj N f) :
    Calls Try.prog 15 #[.pointer (some ⟨r, 0, none⟩), .int .i64 s] w fun e w' => e = .returned (.int .i64 (code (sOk s))) ∧ Rf w' r h M now (goneG N f s) ∧ Two w w' r h := by
  have HG := Lib.hid hg; have HM := Lib.hid hM; have HI := Lib.hid hi
  have hM17 : M ≤ 17 := by omega
  clear hg hM hi
  cases hs : sOk s
  · have HGS := Lib.hid (gone_same (N := N) (g := f) hs)
    by_cases h1 : s < 1
    · have d1 : decide (s < 1) = true := by simpa using h1
      clear hs
      go_enter Try.func15, Try.ntmps15
      go_wp2_with fail
      go_ret
      exact ⟨rfl, by rw [HGS.out]; exact HG.out, Two.refl _ _ _⟩
    · have d1 : decide (s < 1) = false := by simpa using h1
      have d2 : decide (6 < s) = true := by simp [sOk] at hs ⊢; omega
      clear hs
      go_enter Try.func15, Try.ntmps15
      go_wp2_with fail
      go_ret
      exact ⟨rfl, by rw [HGS.out]; exact HG.out, Two.refl _ _ _⟩
  · have HS := Lib.hid hs
    have hs' := sOk_iff.1 hs
    have d1 : decide (s < 1) = false := by simp; omega
    have d2 : decide (6 < s) = false := by simp; omega
    clear hs hs'
    go_enter Try.func15, Try.ntmps15
    go_wp2_with fail
    go_loopw [5] (fun i wr => ∃ k : Nat, 1 ≤ k ∧ k ≤ M ∧ i = .int .i64 k ∧ Rf wr r h M now (wiped f s k) ∧ Two w wr r h) (fun i _ => 17 - (intOf i).toNat)
    case atStart => exact ⟨1, by omega, by have := HM.out; omega, rfl, HG.out.congr (fun j _ => by unfold wiped; rw [if_neg (by omega)]), Two.refl _ _ _⟩
    case round =>
      obtain ⟨k, hk, hkM, rfl, hg2, ht2⟩ := hrel
      have e0 := hg2.c0
      have HG2 := Lib.hid hg2; have HT2 := Lib.hid ht2
      clear hg2 ht2
      by_cases hkn : k < M
      · have hc := HG2.out.c k hkn
        have hz := HG2.out.free k
        have e1 : wiped f s k k = f k := by unfold wiped; rw [if_neg (by omega)]
        rw [e1] at hc
        clear e1
        cases hgk : (f k == s)
        · have HP := Lib.hid hgk
          go_wp2_with fail
          go_roundw
          case rel => exact ⟨k + 1, by omega, by omega, by go_num, HG2.out.congr (fun j _ => wiped_no HP.out j), HT2.out⟩
          case measure => simp [intOf]; omega
        · have HP := Lib.hid hgk
          go_wp2_with fail
          go_roundw
          case rel => exact ⟨k + 1, by omega, by omega, by go_num, (HG2.out.set k 0).congr (fun j _ => wiped_yes HP.out hk j), HT2.out.setCell (.inr (.inl rfl)) _⟩
          case measure => simp [intOf]; omega
      · obtain rfl : k = M := by omega
        go_wp2_with fail
        go_ret
        exact ⟨rfl, HG2.out.congr (fun j hj => by have := HM.out; subst this; exact wiped_gone HI.out HS.out j hj), HT2.out⟩

/-- What is given in the next age, of those below k. -/
def nx (f : Nat → Int) (R : Nat → Int) (len k : Nat) : Nat → Int := fun j => if 1 ≤ j ∧ j < k ∧ hasR R len j = true then f j else 0
def nx2 (f : Nat → Int) (R : Nat → Int) (len k r : Nat) : Nat → Int := fun j => if j = k then (if hasR R r k = true then f k else 0) else nx f R len k j
theorem nx_zero (f : Nat → Int) (R : Nat → Int) (len : Nat) (j : Nat) : (0 : Int) = nx f R len 1 j := by
  unfold nx; rw [if_neg (by omega)]
theorem nx2_zero (f : Nat → Int) (R : Nat → Int) (len k : Nat) (j : Nat) : nx f R len k j = nx2 f R len k 0 j := by
  unfold nx2
  by_cases hj : j = k
  · subst hj; rw [if_pos rfl, if_neg (by simp [hasR])]; unfold nx; rw [if_neg (by omega)]
  · rw [if_neg hj]
theorem nx2_no {f : Nat → Int} {R : Nat → Int} {len k r : Nat} (h : (R r == (k : Int)) = false) (j : Nat) : nx2 f R len k r j = nx2 f R len k (r + 1) j := by
  unfold nx2
  by_cases hj : j = k
  · rw [if_pos hj, if_pos hj]
    simp only [hasR, h, Bool.or_false]
  · rw [if_neg hj, if_neg hj]
theorem nx2_yes {f : Nat → Int} {R : Nat → Int} {len k r : Nat} (h : (R r == (k : Int)) = true) (j : Nat) : upd (nx2 f R len k r) k (f k) j = nx2 f R len k (r + 1) j := by
  unfold upd nx2
  by_cases hj : j = k
  · rw [if_pos hj, if_pos hj, if_pos (by simp only [hasR, h, Bool.or_true])]
  · rw [if_neg hj, if_neg hj, if_neg hj]
theorem nx2_end (f : Nat → Int) (R : Nat → Int) (len k : Nat) (hk : 1 ≤ k) (j : Nat) : nx2 f R len k len j = nx f R len (k + 1) j := by
  unfold nx2 nx
  by_cases hj : j = k
  · subst hj
    rw [if_pos rfl]
    by_cases hh : hasR R len j = true
    · rw [if_pos hh, if_pos ⟨hk, by omega, hh⟩]
    · rw [if_neg hh, if_neg (fun x => hh x.2.2)]
  · rw [if_neg hj]
    have e : (j < k + 1) = (j < k) := by simp; omega
    simp only [e]
/-- Is there room, of those below k? -/
def roomB (f : Nat → Int) (R : Nat → Int) (len : Nat) : Nat → Bool
  | 0 => false
  | k + 1 => roomB f R len k || (decide (1 ≤ k) && (nx f R len (k + 1) k == 0))
theorem room_step {f : Nat → Int} {R : Nat → Int} {len k : Nat} (hk : 1 ≤ k) : roomB f R len (k + 1) = (roomB f R len k || (nx f R len (k + 1) k == 0)) := by
  simp [roomB, hk]
theorem room_iff (f : Nat → Int) (R : Nat → Int) (len : Nat) : ∀ k, roomB f R len k = false ↔ ∀ j, 1 ≤ j → j < k → hasR R len j = true ∧ f j ≠ 0
  | 0 => by simp [roomB]
  | k + 1 => by
    simp only [roomB, Bool.or_eq_false_iff, room_iff f R len k]
    constructor
    · rintro ⟨h1, h2⟩ j j1 j2
      by_cases hj : j = k
      · subst hj
        simp only [j1, decide_true, Bool.true_and] at h2
        have h3 : nx f R len (j + 1) j ≠ 0 := by simpa using h2
        unfold nx at h3
        by_cases hh : hasR R len j = true
        · rw [if_pos ⟨j1, by omega, hh⟩] at h3
          exact ⟨hh, h3⟩
        · rw [if_neg (fun x => hh x.2.2)] at h3
          exact absurd rfl h3
      · exact h1 j j1 (by omega)
    · intro h
      refine ⟨fun j j1 j2 => h j j1 (by omega), ?_⟩
      by_cases hk : 1 ≤ k
      · obtain ⟨h1, h2⟩ := h k hk (by omega)
        have : nx f R len (k + 1) k ≠ 0 := by unfold nx; rw [if_pos ⟨hk, by omega, h1⟩]; exact h2
        simp [hk, this]
      · simp [hk]
theorem least_zero {N : Nat} {g : Nat → Int} (h : leastA N g = 0) (j : Nat) (j1 : 1 ≤ j) (j2 : j ≤ N) : g j ≠ 0 := fun hz =>
  scan_ne (p := fun a => g a == 0) (Nat.le_refl 1) j1 (by omega) (by simpa using hz) h
theorem room_all {N : Nat} {f : Nat → Int} {s : Int} {R : Nat → Int} {len : Nat} (hN : N ≤ 16) (hs : sOk s = true) (hA : ofA N f s = 0) (hL : leastA N f = 0) : roomB f R len (N + 1) = false ↔ allS N f s R len := by
  have hs' := sOk_iff.1 hs
  have ns : ∀ j, 1 ≤ j → j ≤ N → f j ≠ s := fun j j1 j2 h => ofA_ne j1 j2 h hs'.1 hs'.2 hA
  rw [room_iff]
  unfold allS
  rw [ones_all N (stay N f s R len) hN (stay_lt N f s R hN len) (fun a ha => by
    have := (stay_bit N f s R a len).1 ha
    exact ⟨this.2.1, this.2.2.1⟩)]
  constructor
  · intro h a a1 a2
    obtain ⟨h1, h2⟩ := h a a1 (by omega)
    exact (stay_bit N f s R a len).2 ⟨(hasR_iff R a len).1 h1, a1, a2, h2, ns a a1 a2⟩
  · intro h j j1 j2
    have := (stay_bit N f s R j len).1 (h j j1 (by omega))
    exact ⟨(hasR_iff R j len).2 this.1, this.2.2.2.1⟩
theorem nx_kept {N : Nat} {f : Nat → Int} {s : Int} {R : Nat → Int} {len : Nat} (hs : sOk s = true) (hA : ofA N f s = 0) (hL : leastA N f = 0) (h0 : f 0 = 0) (j : Nat) (hj : j < N + 1) : nx f R len (N + 1) j = kept N f s R len j := by
  have hs' := sOk_iff.1 hs
  unfold kept keep nx
  by_cases j1 : 1 ≤ j
  · have hb := stay_bit N f s R j len
    cases hbit : (stay N f s R len).testBit j
    · have hno : ¬ (1 ≤ j ∧ j < N + 1 ∧ hasR R len j = true) := by
        rintro ⟨_, _, h3⟩
        rw [hb.2 ⟨(hasR_iff R j len).1 h3, j1, by omega, least_zero hL j j1 (by omega), fun h => ofA_ne j1 (by omega) h hs'.1 hs'.2 hA⟩] at hbit
        cases hbit
      rw [if_neg hno, if_pos ⟨j1, hj, rfl⟩]
    · rw [if_pos (show 1 ≤ j ∧ j < N + 1 ∧ hasR R len j = true from ⟨j1, hj, (hasR_iff R j len).2 (hb.1 hbit).1⟩), if_neg (by simp)]
  · obtain rfl : j = 0 := by omega
    rw [if_neg (by omega), if_neg (by omega), h0]
theorem cnt_zero (g : Nat → Int) : ∀ f a, 1 ≤ a → (cnt g f a = 0 ↔ scan (fun a => g a == 0) f a = 0)
  | 0, _, _ => by simp [cnt, scan]
  | f + 1, a, ha => by
    have ih := cnt_zero g f (a + 1) (by omega)
    simp only [cnt, scan]
    by_cases h : g a = 0
    · simp [h]; omega
    · simp [h]; exact ih
end Go.Proofs.Ytbdphbkpglhhaaa
