/- Layer 9: the plain law of BufferAhead. -/
import Derived.Test.YtdmcmpbappjdoaaDoorD9
namespace Go.Proofs.YtdmcmpbappjdoaaDoor
set_option linter.unusedVariables false

theorem check_iff {l : List Ent} : checkB l = true ↔ l.length ≤ 8 ∧ headBar l = false ∧ ∀ e ∈ l, mayB e = true := by
  simp only [checkB, Bool.and_eq_true, decide_eq_true_eq, Bool.not_eq_true', List.all_eq_true, and_assoc]
theorem free_iff {l : List Ent} {K : Nat} : freeB l K = true ↔ (∀ i, i < K → stopB (nt l i) (nt l K) = false) ∧ isBar (nt l K) = false := by
  simp only [freeB, Bool.and_eq_true, List.all_eq_true, List.mem_range, Bool.not_eq_true']
theorem check_take {l : List Ent} (h : checkB l = true) (k : Nat) : checkB (l.take (k + 1)) = true := by
  obtain ⟨h1, h2, h3⟩ := check_iff.1 h
  refine check_iff.2 ⟨by simp; omega, ?_, fun e he => h3 e (List.mem_of_mem_take he)⟩
  cases l with
  | nil => rfl
  | cons a l => exact h2
theorem free_take {l : List Ent} (k : Nat) : freeB (l.take (k + 1)) k = freeB l k := by
  rw [Bool.eq_iff_iff, free_iff, free_iff, nt_take (by omega)]
  constructor
  · intro h
    exact ⟨fun i hi => by have := h.1 i hi; rwa [nt_take (by omega)] at this, h.2⟩
  · intro h
    exact ⟨fun i hi => by rw [nt_take (by omega)]; exact h.1 i hi, h.2⟩
theorem may_take {l : List Ent} (h : checkB l = true) {k : Nat} (hk : k < l.length) : mayAt (l.take (k + 1)) k = mayAt l k := by
  have h1 : k < (l.take (k + 1)).length := by simp; omega
  simp only [mayAt, check_take h, h, Int.toNat_natCast, free_take]
  simp [hk]
  intro _
  omega
theorem stop_bar {e x : Ent} (h : stopB e x = false) : isBar e = false := by
  simp only [stopB, Bool.or_eq_false_iff] at h
  exact h.1
theorem nt_erase (l : List Ent) (o j : Nat) : nt (l.eraseIdx o) j = if j < o then nt l j else nt l (j + 1) := by
  unfold nt
  rw [List.getElem?_eraseIdx]
  split <;> rfl
theorem take_erase {l : List Ent} {o k : Nat} (ho : o < l.length) (hk : k < l.length) (hne : o ≠ k) (hf : freeB l k = true) : takeL l o = l.eraseIdx o := by
  unfold takeL
  rw [List.eraseIdx_eq_take_drop_succ]
  by_cases h0 : o = 0
  · subst h0
    rw [if_pos rfl]
    congr 1
    obtain ⟨h1, h2⟩ := free_iff.1 hf
    have hb : isBar (nt l 1) = false := by
      by_cases hk1 : k = 1
      · subst hk1; exact h2
      · exact stop_bar (h1 1 (by omega))
    have hl : 1 < l.length := by omega
    rw [List.drop_eq_getElem_cons hl, List.dropWhile_cons]
    have : l[1] = nt l 1 := by unfold nt; rw [List.getElem?_eq_getElem hl]; rfl
    rw [this, hb]
    rfl
  · rw [if_neg h0]
theorem ahead {l : List Ent} {k o : Nat} (hc : checkB l = true) (hk : k < l.length) (ho : o < l.length) (hne : o ≠ k) (fk : freeB l k = true) :
    ∃ i, i < (takeL l o).length ∧ nt (takeL l o) i = nt l k ∧ mayAt (takeL l o) i = true := by
  rw [take_erase ho hk hne fk]
  obtain ⟨c1, c2, c3⟩ := check_iff.1 hc
  obtain ⟨f1, f2⟩ := free_iff.1 fk
  have hlen : (l.eraseIdx o).length = l.length - 1 := by rw [List.length_eraseIdx, if_pos ho]
  have hi : nt (l.eraseIdx o) (if o < k then k - 1 else k) = nt l k := by
    rw [nt_erase]
    by_cases h : o < k
    · rw [if_pos h, if_neg (by omega)]; congr 1; omega
    · rw [if_neg h, if_pos (by omega)]
  have hil : (if o < k then k - 1 else k) < l.length - 1 := by
    by_cases h : o < k
    · rw [if_pos h]; omega
    · rw [if_neg h]; omega
  refine ⟨if o < k then k - 1 else k, by omega, hi, ?_⟩
  have hfree : freeB (l.eraseIdx o) (if o < k then k - 1 else k) = true := by
    refine free_iff.2 ⟨fun j hj => ?_, by rw [hi]; exact f2⟩
    rw [hi, nt_erase]
    by_cases hjo : j < o
    · rw [if_pos hjo]
      refine f1 j ?_
      by_cases h : o < k
      · omega
      · rw [if_neg h] at hj; exact hj
    · rw [if_neg hjo]
      refine f1 (j + 1) ?_
      by_cases h : o < k
      · rw [if_pos h] at hj; omega
      · rw [if_neg h] at hj; omega
  have hcheck : checkB (l.eraseIdx o) = true := by
    refine check_iff.2 ⟨by omega, ?_, fun e he => c3 e (List.mem_of_mem_eraseIdx he)⟩
    rw [headBar_nt (by omega), nt_erase]
    by_cases h0 : 0 < o
    · rw [if_pos h0, ← headBar_nt (by omega)]; exact c2
    · rw [if_neg h0]
      by_cases hk1 : k = 1
      · subst hk1; exact f2
      · exact stop_bar (f1 1 (by omega))
  have h2 : (if o < k then k - 1 else k) < (l.eraseIdx o).length := by omega
  simp only [mayAt, hcheck, hfree, Int.toNat_natCast, Bool.true_and, Bool.and_true, decide_eq_true_eq, Bool.and_eq_true]
  omega

def eqE (a b : Ent) : Bool := a.k == b.k && a.wd == b.wd && a.v == b.v && a.fr == b.fr && a.fm == b.fm
theorem eqE_iff {a b : Ent} : eqE a b = true ↔ a = b := by
  obtain ⟨a1, a2, a3, a4, a5⟩ := a
  obtain ⟨b1, b2, b3, b4, b5⟩ := b
  simp [eqE, and_assoc]
theorem eqE_self (a : Ent) : eqE a a = true := eqE_iff.2 rfl
end Go.Proofs.YtdmcmpbappjdoaaDoor
