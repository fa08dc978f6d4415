/- The plain law of AsidApart: who has which ASID, and who had it last. -/
import Derived.Test.YtbdphbkpglhhaaaA6
namespace Go.Proofs.Ytbdphbkpglhhaaa
set_option linter.unusedVariables false

/-- A giver's row: each space at most once. -/
def Inj (N : Nat) (g : Nat → Int) : Prop :=
  (∀ i j, 1 ≤ i → i ≤ N → 1 ≤ j → j ≤ N → g i = g j → g i ≠ 0 → i = j) ∧ ∀ i, 1 ≤ i → i ≤ N → 0 ≤ g i ∧ g i ≤ 6
/-- Who had it last has it still. -/
def Own (N : Nat) (g ow : Nat → Int) : Prop := ∀ j, 1 ≤ j → j ≤ N → ow j ≠ 0 → ow j = g j

theorem ofA_some {N : Nat} {g : Nat → Int} {s : Int} (h : ofA N g s ≠ 0) : 1 ≤ ofA N g s ∧ ofA N g s ≤ N ∧ g (ofA N g s) = s ∧ 1 ≤ s ∧ s ≤ 6 := by
  unfold ofA at h ⊢
  by_cases hs : 1 ≤ s ∧ s ≤ 6
  · rw [if_pos hs] at h ⊢
    rcases scan_le (fun a => g a == s) N 1 with h0 | ⟨h1, h2, h3⟩
    · exact absurd h0 h
    · exact ⟨h1, by omega, by simpa using h3, hs.1, hs.2⟩
  · rw [if_neg hs] at h
    exact absurd rfl h
theorem ofA_ne {N : Nat} {g : Nat → Int} {s : Int} {j : Nat} (h1 : 1 ≤ j) (h2 : j ≤ N) (hg : g j = s) (hs1 : 1 ≤ s) (hs2 : s ≤ 6) : ofA N g s ≠ 0 := by
  unfold ofA
  rw [if_pos ⟨hs1, hs2⟩]
  exact scan_ne (p := fun a => g a == s) (Nat.le_refl 1) h1 (by omega) (by simpa using hg)
theorem ofA_at {N : Nat} {g : Nat → Int} (hi : Inj N g) {s : Int} {j : Nat} (h1 : 1 ≤ j) (h2 : j ≤ N) (hg : g j = s) (hs1 : 1 ≤ s) (hs2 : s ≤ 6) : ofA N g s = j := by
  obtain ⟨a1, a2, a3, _, _⟩ := ofA_some (ofA_ne h1 h2 hg hs1 hs2)
  exact hi.1 _ _ a1 a2 h1 h2 (by omega) (by omega)
theorem leastA_some {N : Nat} {g : Nat → Int} (h : leastA N g ≠ 0) : 1 ≤ leastA N g ∧ leastA N g ≤ N ∧ g (leastA N g) = 0 := by
  unfold leastA at h ⊢
  rcases scan_le (fun a => g a == 0) N 1 with h0 | ⟨h1, h2, h3⟩
  · exact absurd h0 h
  · exact ⟨h1, by omega, by simpa using h3⟩
theorem sOk_iff {s : Int} : sOk s = true ↔ 1 ≤ s ∧ s ≤ 6 := by simp [sOk]

def hasR (R : Nat → Int) : Nat → Nat → Bool
  | 0, _ => false
  | k + 1, a => hasR R k a || (R k == (a : Int))
theorem hasR_iff (R : Nat → Int) (a : Nat) : ∀ k, hasR R k a = true ↔ ∃ j, j < k ∧ R j = (a : Int)
  | 0 => by simp [hasR]
  | k + 1 => by
    simp only [hasR, Bool.or_eq_true, hasR_iff R a k, beq_iff_eq]
    constructor
    · rintro (⟨j, h1, h2⟩ | h)
      · exact ⟨j, by omega, h2⟩
      · exact ⟨k, by omega, h⟩
    · rintro ⟨j, h1, h2⟩
      by_cases hj : j = k
      · subst hj; exact .inr h2
      · exact .inl ⟨j, by omega, h2⟩

/-- What 'kept' is in the round of space q, r of the running gone through. -/
def kp (N : Nat) (g : Nat → Int) (R : Nat → Int) (len : Nat) (q : Int) (r : Nat) (a : Nat) : Int :=
  if 1 ≤ a ∧ a ≤ N ∧ ((1 ≤ g a ∧ g a < q ∧ hasR R len a = true) ∨ (g a = q ∧ hasR R r a = true)) then g a else 0

theorem kp_ne {N : Nat} {g : Nat → Int} {R : Nat → Int} {len : Nat} {q : Int} {r a : Nat} (h : kp N g R len q r a ≠ 0) :
    1 ≤ a ∧ a ≤ N ∧ kp N g R len q r a = g a := by
  unfold kp at h ⊢
  split at h
  · rename_i hc
    rw [if_pos hc]
    exact ⟨hc.1, hc.2.1, rfl⟩
  · exact absurd rfl h
theorem kp_zero (N : Nat) (g : Nat → Int) (R : Nat → Int) (len : Nat) (a : Nat) : kp N g R len 1 0 a = 0 := by
  unfold kp
  rw [if_neg]
  rintro ⟨_, _, h | h⟩
  · omega
  · simp [hasR] at h
theorem kp_space (N : Nat) (g : Nat → Int) (R : Nat → Int) (len : Nat) (q : Int) (hq : 1 ≤ q) (a : Nat) : kp N g R len q len a = kp N g R len (q + 1) 0 a := by
  unfold kp
  congr 1
  simp only [hasR, Bool.false_eq_true, and_false, or_false, eq_iff_iff]
  constructor
  · rintro ⟨h1, h2, ⟨h3, h4, h5⟩ | ⟨h3, h4⟩⟩
    · exact ⟨h1, h2, h3, by omega, h5⟩
    · exact ⟨h1, h2, by omega, by omega, h4⟩
  · rintro ⟨h1, h2, h3, h4, h5⟩
    by_cases hg : g a = q
    · exact ⟨h1, h2, .inr ⟨hg, h5⟩⟩
    · exact ⟨h1, h2, .inl ⟨h3, by omega, h5⟩⟩
/-- A round of the running ones: nothing to note. -/
theorem kp_no {N : Nat} {g : Nat → Int} (hi : Inj N g) {R : Nat → Int} {len : Nat} {q : Int} (hq : 1 ≤ q ∧ q ≤ 6) {r : Nat} (h : ofA N g q = 0 ∨ R r ≠ (ofA N g q : Int)) (a : Nat) :
    kp N g R len q r a = kp N g R len q (r + 1) a := by
  unfold kp
  congr 1
  simp only [hasR, Bool.or_eq_true, beq_iff_eq, eq_iff_iff]
  constructor
  · rintro ⟨h1, h2, h3 | ⟨h3, h4⟩⟩
    · exact ⟨h1, h2, .inl h3⟩
    · exact ⟨h1, h2, .inr ⟨h3, .inl h4⟩⟩
  · rintro ⟨h1, h2, h3 | ⟨h3, h4 | h4⟩⟩
    · exact ⟨h1, h2, .inl h3⟩
    · exact ⟨h1, h2, .inr ⟨h3, h4⟩⟩
    · exfalso
      have e := ofA_at hi h1 h2 h3 hq.1 hq.2
      rcases h with h | h
      · omega
      · rw [e] at h; exact h h4
/-- A round of the running ones: it is noted. -/
theorem kp_yes {N : Nat} {g : Nat → Int} (hi : Inj N g) {R : Nat → Int} {len : Nat} {q : Int} (hq : 1 ≤ q ∧ q ≤ 6) {r : Nat} (h0 : ofA N g q ≠ 0) (h : R r = (ofA N g q : Int)) (a : Nat) :
    (if a = ofA N g q then q else kp N g R len q r a) = kp N g R len q (r + 1) a := by
  obtain ⟨a1, a2, a3, _, _⟩ := ofA_some h0
  by_cases ha : a = ofA N g q
  · subst ha
    rw [if_pos rfl]
    unfold kp
    rw [if_pos ⟨a1, a2, .inr ⟨a3, by simp [hasR, h]⟩⟩, a3]
  · rw [if_neg ha]
    unfold kp
    congr 1
    simp only [hasR, Bool.or_eq_true, beq_iff_eq, eq_iff_iff]
    constructor
    · rintro ⟨h1, h2, h3 | ⟨h3, h4⟩⟩
      · exact ⟨h1, h2, .inl h3⟩
      · exact ⟨h1, h2, .inr ⟨h3, .inl h4⟩⟩
    · rintro ⟨h1, h2, h3 | ⟨h3, h4 | h4⟩⟩
      · exact ⟨h1, h2, .inl h3⟩
      · exact ⟨h1, h2, .inr ⟨h3, h4⟩⟩
      · exact absurd (ofA_at hi h1 h2 h3 hq.1 hq.2).symm ha

/-- Inj is kept by giving a free one to who has none. -/
theorem Inj.give {N : Nat} {g : Nat → Int} (hi : Inj N g) {s : Int} (hs : 1 ≤ s ∧ s ≤ 6) (h0 : ofA N g s = 0) (a : Nat) : Inj N (upd g a s) := by
  have none : ∀ j, 1 ≤ j → j ≤ N → g j ≠ s := fun j h1 h2 h3 => ofA_ne h1 h2 h3 hs.1 hs.2 h0
  refine ⟨fun i j i1 i2 j1 j2 e ne => ?_, fun i i1 i2 => ?_⟩
  · unfold upd at e ne
    by_cases hia : i = a <;> by_cases hja : j = a
    · omega
    · rw [if_pos hia, if_neg hja] at e
      exact absurd e.symm (none j j1 j2)
    · rw [if_neg hia, if_pos hja] at e
      exact absurd e (none i i1 i2)
    · rw [if_neg hia, if_neg hja] at e
      rw [if_neg hia] at ne
      exact hi.1 i j i1 i2 j1 j2 e ne
  · unfold upd
    split
    · omega
    · exact hi.2 i i1 i2
theorem Inj.less {N : Nat} {g g' : Nat → Int} (hi : Inj N g) (h : ∀ j, g' j = 0 ∨ g' j = g j) : Inj N g' := by
  refine ⟨fun i j i1 i2 j1 j2 e ne => ?_, fun i i1 i2 => ?_⟩
  · have hI := h i; have hJ := h j
    exact hi.1 i j i1 i2 j1 j2 (by omega) (by omega)
  · have hI := h i; have := hi.2 i i1 i2
    omega
theorem kept_or (N : Nat) (g : Nat → Int) (s : Int) (R : Nat → Int) (len : Nat) (j : Nat) : kept N g s R len j = 0 ∨ kept N g s R len j = g j := by
  unfold kept keep
  split
  · exact .inl rfl
  · exact .inr rfl
/-- When an age ends, those that stay are those that run. -/
theorem kept_kp {N : Nat} {g : Nat → Int} (hi : Inj N g) {s : Int} (hs : 1 ≤ s ∧ s ≤ 6) (h0 : ofA N g s = 0) (R : Nat → Int) (len : Nat) {j : Nat} (h1 : 1 ≤ j) (h2 : j ≤ N) :
    kp N g R len 7 0 j = kept N g s R len j := by
  have ns : g j ≠ s := fun h3 => ofA_ne h1 h2 h3 hs.1 hs.2 h0
  have hb := stay_bit N g s R j len
  have hr := hi.2 j h1 h2
  unfold kept keep
  cases hbit : (stay N g s R len).testBit j
  · rw [if_pos ⟨h1, by omega, rfl⟩]
    unfold kp
    rw [if_neg]
    rintro ⟨_, _, ⟨x1, x2, x3⟩ | ⟨x1, x2⟩⟩
    · rw [hb.2 ⟨(hasR_iff R j len).1 x3, h1, h2, by omega, ns⟩] at hbit
      cases hbit
    · simp [hasR] at x2
  · rw [if_neg (by simp)]
    have := hb.1 hbit
    unfold kp
    rw [if_pos ⟨h1, h2, .inl ⟨by have := this.2.2.2.1; omega, by omega, (hasR_iff R j len).2 this.1⟩⟩]

/-- All that AsidApart asks of an Ask that answers OK. -/
structure Apart (N : Nat) (g ow : Nat → Int) (s : Int) (R : Nat → Int) (len : Nat) (K ow' : Nat → Int) : Prop where
  lo : 1 ≤ askA N g s R len
  hi : askA N g s R len ≤ N
  own : ow' (askA N g s R len) = 0 ∨ ow' (askA N g s R len) = s
  next : Own N (askG N g s R len) (fun j => if j = askA N g s R len then s else ow' j)
  inj : Inj N (askG N g s R len)
  stays : ∀ k, K k ≠ 0 → 1 ≤ k ∧ k ≤ N ∧ ofA N (askG N g s R len) (K k) = k

theorem apart_ok {N : Nat} {g ow : Nat → Int} (hi : Inj N g) (ho : Own N g ow) (hN : N ≤ 16) (s : Int) (R : Nat → Int) (len : Nat) (he : askE N g s R len = 0) :
    Apart N g ow s R len (kp N g R len 7 0) (if askF N g s R len = true then kp N g R len 7 0 else ow) := by
  cases hs0 : sOk s
  · simp [askE, hs0] at he
  have hs := sOk_iff.1 hs0
  have stays0 : ∀ (g' : Nat → Int), Inj N g' → (∀ k, kp N g R len 7 0 k ≠ 0 → g' k = g k) → ∀ k, kp N g R len 7 0 k ≠ 0 → 1 ≤ k ∧ k ≤ N ∧ ofA N g' (kp N g R len 7 0 k) = k := by
    intro g' hi' hk k hne
    obtain ⟨h1, h2, h3⟩ := kp_ne hne
    have := hi.2 k h1 h2
    exact ⟨h1, h2, ofA_at hi' h1 h2 ((hk k hne).trans h3.symm) (by omega) (by omega)⟩
  by_cases h1 : ofA N g s = 0
  · by_cases h2 : leastA N g = 0
    · by_cases h3 : allS N g s R len
      · simp [askE, hs0, h1, h2, h3] at he
      · have hl := flush_least N g s R len hN h3
        obtain ⟨l1, l2, l3⟩ := leastA_some hl
        have eA : askA N g s R len = leastA N (kept N g s R len) := by simp [askA, hs0, h1, h2, h3]
        have eF : askF N g s R len = true := by simp [askF, hs0, h1, h2, h3]
        have eG : askG N g s R len = upd (kept N g s R len) (leastA N (kept N g s R len)) s := by simp [askG, hs0, h1, h2, h3]
        rw [eF, if_pos rfl]
        have hik : Inj N (kept N g s R len) := hi.less (kept_or N g s R len)
        have hk0 : ofA N (kept N g s R len) s = 0 := by
          by_cases hne : ofA N (kept N g s R len) s = 0
          · exact hne
          · obtain ⟨x1, x2, x3, _, _⟩ := ofA_some hne
            have := kept_or N g s R len (ofA N (kept N g s R len) s)
            exact absurd h1 (ofA_ne x1 x2 (by omega) hs.1 hs.2)
        have hig : Inj N (upd (kept N g s R len) (leastA N (kept N g s R len)) s) := hik.give hs hk0 _
        refine ⟨by omega, by omega, ?_, ?_, by rw [eG]; exact hig, by
          rw [eG]
          refine stays0 _ hig fun k hne => ?_
          obtain ⟨h1', h2', h3'⟩ := kp_ne hne
          have ek := kept_kp hi hs h1 R len h1' h2'
          unfold upd
          rw [if_neg (by rintro rfl; omega)]
          omega⟩
        · rw [eA]
          left
          rw [kept_kp hi hs h1 R len l1 l2, l3]
        · rw [eA, eG]
          intro j j1 j2 hne
          unfold upd
          by_cases hj : j = leastA N (kept N g s R len)
          · simp only [hj, if_true]
          · simp only [hj, if_false]
            exact kept_kp hi hs h1 R len j1 j2
    · obtain ⟨l1, l2, l3⟩ := leastA_some h2
      have eA : askA N g s R len = leastA N g := by simp [askA, hs0, h1, h2]
      have eF : askF N g s R len = false := by simp [askF, hs0, h1, h2]
      have eG : askG N g s R len = upd g (leastA N g) s := by simp [askG, hs0, h1, h2]
      rw [eF, if_neg (by simp)]
      have hig := hi.give hs h1 (leastA N g)
      refine ⟨by omega, by omega, ?_, ?_, by rw [eG]; exact hig, by
        rw [eG]
        refine stays0 _ hig fun k hne => ?_
        obtain ⟨h1', h2', h3'⟩ := kp_ne hne
        unfold upd
        rw [if_neg (by rintro rfl; omega)]⟩
      · rw [eA]
        left
        by_cases hz : ow (leastA N g) = 0
        · exact hz
        · have := ho _ l1 l2 hz; omega
      · rw [eA, eG]
        intro j j1 j2 hne
        unfold upd
        by_cases hj : j = leastA N g
        · simp only [hj, if_true]
        · simp only [hj, if_false] at hne ⊢
          exact ho j j1 j2 hne
  · obtain ⟨l1, l2, l3, _, _⟩ := ofA_some h1
    have eA : askA N g s R len = ofA N g s := by simp [askA, hs0, h1]
    have eF : askF N g s R len = false := by simp [askF, hs0, h1]
    have eG : askG N g s R len = g := by simp [askG, hs0, h1]
    rw [eF, if_neg (by simp)]
    refine ⟨by omega, by omega, ?_, ?_, by rw [eG]; exact hi, by rw [eG]; exact stays0 g hi fun k hne => rfl⟩
    · rw [eA]
      by_cases hz : ow (ofA N g s) = 0
      · exact .inl hz
      · have := ho _ l1 l2 hz; exact .inr (by omega)
    · rw [eA, eG]
      intro j j1 j2 hne
      by_cases hj : j = ofA N g s
      · simp only [hj, if_true]; exact l3.symm
      · simp only [hj, if_false] at hne ⊢
        exact ho j j1 j2 hne

theorem ask_not {N : Nat} {g : Nat → Int} {s : Int} {R : Nat → Int} {len : Nat} (he : askE N g s R len ≠ 0) : askG N g s R len = g := by
  unfold askE at he
  unfold askG
  split
  · rfl
  · rename_i h0
    rw [if_neg h0] at he
    split
    · rfl
    · rename_i h1
      rw [if_neg h1] at he
      split
      · rename_i h2
        rw [if_pos h2] at he
        exact absurd rfl he
      · rename_i h2
        rw [if_neg h2] at he
        split
        · rfl
        · rename_i h3
          rw [if_neg h3] at he
          exact absurd rfl he

theorem gone_inj {N : Nat} {g : Nat → Int} (hi : Inj N g) (s : Int) : Inj N (goneG N g s) := by
  refine hi.less fun j => ?_
  unfold goneG
  split
  · exact .inr rfl
  · unfold upd
    split
    · exact .inl rfl
    · exact .inr rfl
theorem gone_own {N : Nat} {g ow : Nat → Int} (hi : Inj N g) (ho : Own N g ow) (s : Int) : Own N (goneG N g s) (fun j => if j < 17 ∧ ow j = s then 0 else ow j) ∨ 16 < N := by
  by_cases hN : N ≤ 16
  · left
    intro j j1 j2 hne
    by_cases hc : j < 17 ∧ ow j = s
    · simp only [hc, and_self, if_true] at hne
      exact absurd rfl hne
    · simp only [hc, if_false] at hne ⊢
      have e := ho j j1 j2 hne
      unfold goneG
      split
      · exact e
      · rename_i h0
        unfold upd
        rw [if_neg]
        · exact e
        · rintro rfl
          obtain ⟨_, _, l3, _, _⟩ := ofA_some h0
          exact hc ⟨by omega, by omega⟩
  · exact .inr (by omega)
theorem gone_same {N : Nat} {g : Nat → Int} {s : Int} (hs : sOk s = false) : goneG N g s = g := by
  have : ofA N g s = 0 := by
    unfold ofA
    rw [if_neg (by simp [sOk] at hs; omega)]
  simp [goneG, this]

/-- Which were seen. -/
def seenF (N : Nat) (g : Nat → Int) (q : Int) (a : Nat) : Bool := decide (1 ≤ a ∧ a ≤ N ∧ 1 ≤ g a ∧ g a < q)
theorem seen_zero (N : Nat) (g : Nat → Int) (a : Nat) : seenF N g 1 a = false := by
  simp only [seenF, decide_eq_false_iff_not]
  omega
theorem seen_not {N : Nat} {g : Nat → Int} {q : Int} (h : ofA N g q ≠ 0) : seenF N g q (ofA N g q) = false := by
  obtain ⟨_, _, l3, _, _⟩ := ofA_some h
  simp [seenF, l3]
theorem seen_yes {N : Nat} {g : Nat → Int} (hi : Inj N g) {q : Int} (h : ofA N g q ≠ 0) (a : Nat) : (if a = ofA N g q then true else seenF N g q a) = seenF N g (q + 1) a := by
  obtain ⟨l1, l2, l3, q1, q2⟩ := ofA_some h
  by_cases ha : a = ofA N g q
  · subst ha
    rw [if_pos rfl]
    symm
    simp only [seenF, decide_eq_true_eq]
    omega
  · rw [if_neg ha]
    unfold seenF
    congr 1
    rw [eq_iff_iff]
    constructor
    · rintro ⟨h1, h2, h3, h4⟩; exact ⟨h1, h2, h3, by omega⟩
    · rintro ⟨h1, h2, h3, h4⟩
      refine ⟨h1, h2, h3, ?_⟩
      by_cases hq : g a = q
      · exact absurd (ofA_at hi h1 h2 hq q1 q2).symm ha
      · omega
theorem seen_no {N : Nat} {g : Nat → Int} {q : Int} (hq : 1 ≤ q ∧ q ≤ 6) (h : ofA N g q = 0) (a : Nat) : seenF N g q a = seenF N g (q + 1) a := by
  unfold seenF
  congr 1
  rw [eq_iff_iff]
  constructor
  · rintro ⟨h1, h2, h3, h4⟩; exact ⟨h1, h2, h3, by omega⟩
  · rintro ⟨h1, h2, h3, h4⟩
    refine ⟨h1, h2, h3, ?_⟩
    by_cases hg : g a = q
    · exact absurd h (ofA_ne h1 h2 hg hq.1 hq.2)
    · omega
end Go.Proofs.Ytbdphbkpglhhaaa
