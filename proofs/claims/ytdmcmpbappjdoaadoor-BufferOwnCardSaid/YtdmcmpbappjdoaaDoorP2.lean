/- Layer 9: the plain law of BufferBar. -/
import Derived.Test.YtdmcmpbappjdoaaDoorM1
import Derived.Test.YtdmcmpbappjdoaaDoorM2
import Derived.Test.YtdmcmpbappjdoaaDoorP1
namespace Go.Proofs.YtdmcmpbappjdoaaDoor
set_option linter.unusedVariables false

theorem lastW_none {p : Nat → Bool} : ∀ {n : Nat}, lastW p n = none → ∀ j, j < n → p j = false
  | 0, _, j, hj => by omega
  | n + 1, h, j, hj => by
    unfold lastW at h
    cases hp : p n
    · rw [hp, if_neg (by simp)] at h
      by_cases hjn : j = n
      · subst hjn; exact hp
      · exact lastW_none h j (by omega)
    · rw [hp, if_pos rfl] at h; cases h
theorem lastW_some {p : Nat → Bool} : ∀ {n k : Nat}, lastW p n = some k → k < n ∧ p k = true ∧ ∀ j, k < j → j < n → p j = false
  | 0, k, h => by cases h
  | n + 1, k, h => by
    unfold lastW at h
    cases hp : p n
    · rw [hp, if_neg (by simp)] at h
      obtain ⟨h1, h2, h3⟩ := lastW_some h
      refine ⟨by omega, h2, fun j j1 j2 => ?_⟩
      by_cases hjn : j = n
      · subst hjn; exact hp
      · exact h3 j j1 (by omega)
    · rw [hp, if_pos rfl] at h
      obtain rfl : n = k := by injection h
      exact ⟨by omega, hp, fun j j1 j2 => by omega⟩

def memK (l : List Ent) (M : Nat → Int) : Nat → Nat → Int
  | 0 => M
  | k + 1 => putM (nt l k) (memK l M k)
def nmB (e : Ent) (word : Int) : Bool := (e.k == 0 && e.wd == word) || (e.k == 2 && e.fm == word / 512)
def namB (l : List Ent) (word : Int) : Nat → Bool
  | 0 => false
  | k + 1 => namB l word k || nmB (nt l k) word
theorem nm_wr {e : Ent} {word : Int} (h3 : e.k ≠ 3) : nmB e word = wrB e word := by
  unfold nmB wrB
  by_cases h0 : e.k = 0
  · simp [h0]
  · by_cases h2 : e.k = 2
    · simp [h2]
    · simp [h0, h2, h3]
theorem nam_false {l : List Ent} {word : Int} : ∀ {n : Nat}, (∀ j, j < n → nmB (nt l j) word = false) → namB l word n = false
  | 0, _ => rfl
  | n + 1, h => by
    simp only [namB, Bool.or_eq_false_iff]
    exact ⟨nam_false fun j hj => h j (by omega), h n (by omega)⟩
theorem nam_true {l : List Ent} {word : Int} : ∀ {n k : Nat}, k < n → nmB (nt l k) word = true → namB l word n = true
  | 0, k, hk, _ => by omega
  | n + 1, k, hk, h => by
    simp only [namB, Bool.or_eq_true]
    by_cases hkn : k = n
    · subst hkn; exact .inr h
    · exact .inl (nam_true (by omega) h)
theorem put_not {e : Ent} {M : Nat → Int} {i : Nat} (h3 : e.k ≠ 3) (h : wrB e (i : Int) = false) : putM e M i = M i := by
  unfold wrB at h
  unfold putM
  by_cases h0 : e.k = 0
  · rw [if_pos h0] at h ⊢
    rw [if_neg]
    intro he
    simp [he] at h
  · rw [if_neg h0] at h ⊢
    by_cases h2 : e.k = 2
    · rw [if_pos (.inl h2)] at h
      rw [if_pos h2, if_neg]
      intro he
      rw [← he] at h
      simp at h
    · rw [if_neg h2, if_neg h3]
theorem put_wr {e : Ent} {M : Nat → Int} {i : Nat} (hm : mayB e = true) (h3 : e.k ≠ 3) (h : wrB e (i : Int) = true) : putM e M i = e.v := by
  unfold wrB at h
  unfold putM
  by_cases h0 : e.k = 0
  · rw [if_pos h0] at h ⊢
    rw [if_pos (by simpa using (show e.wd = (i : Int) by simpa using h).symm)]
  · rw [if_neg h0] at h ⊢
    by_cases h2 : e.k = 2
    · rw [if_pos (.inl h2)] at h
      have hf : e.fm = (i : Int) / 512 := by simpa using h
      rw [if_pos h2, if_pos (by omega)]
      simp only [mayB, Bool.and_eq_true, h2] at hm
      have hr := hm.1.1.2
      have hkw : kW (2 : Int).toNat = false := rfl
      simp only [restB, hkw, Bool.false_eq_true, if_false, Bool.and_eq_true, beq_iff_eq] at hr
      exact hr.2.symm
    · rw [if_neg (by omega)] at h
      cases h
theorem mem_last {l : List Ent} {M : Nat → Int} {i k : Nat} (hm : mayB (nt l k) = true) (hk : wrB (nt l k) (i : Int) = true) : ∀ {n : Nat}, k < n → (∀ j, j < n → (nt l j).k ≠ 3) → (∀ j, k < j → j < n → wrB (nt l j) (i : Int) = false) → memK l M n i = (nt l k).v
  | 0, hn, _, _ => by omega
  | n + 1, hn, h3, hno => by
    show putM (nt l n) (memK l M n) i = _
    by_cases hkn : k = n
    · subst hkn; exact put_wr hm (h3 k (by omega)) hk
    · rw [put_not (h3 n (by omega)) (hno n (by omega) (by omega))]
      exact mem_last hm hk (by omega) (fun j hj => h3 j (by omega)) (fun j j1 j2 => hno j j1 (by omega))
/-- What BufferBar asks of Forward. -/
theorem bar_ok {l : List Ent} (hc : checkB l = true) {i : Nat} (hi : i < 2048) (h3 : ∀ j, j < l.length → (nt l j).k ≠ 3) (M : Nat → Int) :
    (fwdR l i).2.2 = 0 ∧ (fwdR l i).2.1 = namB l i l.length ∧ ((fwdR l i).2.1 = true → (fwdR l i).1 = memK l M l.length i) := by
  have hr : fwdR l i = fwdO l (lastW (fun j => wrB (nt l j) (i : Int)) l.length) := by
    unfold fwdR
    rw [if_neg (by simp [hc]; omega)]
  rw [hr]
  cases hl : lastW (fun j => wrB (nt l j) (i : Int)) l.length with
  | none =>
    have hno := lastW_none hl
    refine ⟨rfl, ?_, fun h => by cases h⟩
    exact (nam_false fun j hj => by rw [nm_wr (h3 j hj)]; exact hno j hj).symm
  | some k =>
    obtain ⟨h1, h2, h4⟩ := lastW_some hl
    have e : fwdO l (some k) = ((nt l k).v, true, 0) := by
      unfold fwdO
      simp only
      rw [if_neg (h3 k h1)]
    rw [e]
    refine ⟨rfl, (nam_true h1 (by rw [nm_wr (h3 k h1)]; exact h2)).symm, fun _ => ?_⟩
    have hm : mayB (nt l k) = true := (check_iff.1 hc).2.2 _ (nt_mem h1)
    exact (mem_last hm h2 h1 h3 h4).symm
theorem bar_may {l : List Ent} {j k : Nat} (hj : j ≤ k) (hb : isBar (nt l j) = true) : mayAt l k = false := by
  have hf : freeB l k = false := by
    by_cases hjk : j = k
    · subst hjk
      cases hf : freeB l j
      · rfl
      · have := (free_iff.1 hf).2
        rw [hb] at this; cases this
    · exact free_no (i := j) (by omega) (by simp [stopB, hb])
  simp [mayAt, hf]
end Go.Proofs.YtdmcmpbappjdoaaDoor
