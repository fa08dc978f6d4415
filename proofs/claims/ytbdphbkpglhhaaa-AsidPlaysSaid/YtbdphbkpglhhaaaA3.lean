/- Layer 17: plain facts on bits. -/
import Derived.Test.YtbdphbkpglhhaaaA2
namespace Go.Proofs.Ytbdphbkpglhhaaa
open Go.ChangeShapes Go.WideShapes Go.ChangeAt Go.RowKit
set_option linter.unusedVariables false

/-- How many of f bits from a on are 1. -/
def bs (x : Nat) : Nat → Nat → Nat
  | 0, _ => 0
  | f + 1, a => (x.testBit a).toNat + bs x f (a + 1)
theorem tabv_bs : ∀ i : Fin 256, tabv i.val = bs i.val 8 0 := by decide +kernel
theorem bs_congr {x y : Nat} : ∀ (f a c : Nat), (∀ j, j < f → x.testBit (a + j) = y.testBit (c + j)) → bs x f a = bs y f c
  | 0, _, _, _ => rfl
  | f + 1, a, c, h => by
    have h0 := h 0 (by omega)
    simp only [Nat.add_zero] at h0
    simp only [bs, h0]
    rw [bs_congr f (a + 1) (c + 1) (fun j hj => by
      have := h (j + 1) (by omega)
      rwa [show a + 1 + j = a + (j + 1) by omega, show c + 1 + j = c + (j + 1) by omega])]
theorem bs_add (x : Nat) : ∀ (f k a : Nat), bs x (f + k) a = bs x f a + bs x k (a + f)
  | 0, k, a => by simp [bs]
  | f + 1, k, a => by
    rw [show f + 1 + k = (f + k) + 1 by omega]
    simp only [bs]
    rw [bs_add x f k (a + 1), show a + 1 + f = a + (f + 1) by omega]
    omega
theorem bs_zero (x : Nat) : ∀ (f a : Nat), (∀ j, j < f → x.testBit (a + j) = false) → bs x f a = 0
  | 0, _, _ => rfl
  | f + 1, a, h => by
    have h0 := h 0 (by omega)
    simp only [Nat.add_zero] at h0
    simp only [bs, h0]
    rw [bs_zero x f (a + 1) (fun j hj => by
      have := h (j + 1) (by omega)
      rwa [show a + 1 + j = a + (j + 1) by omega])]
    rfl
theorem bs_le (x : Nat) : ∀ (f a : Nat), bs x f a ≤ f
  | 0, _ => Nat.le_refl _
  | f + 1, a => by
    have := bs_le x f (a + 1)
    simp only [bs]
    cases x.testBit a <;> simp <;> omega
theorem bs_full (x : Nat) : ∀ (f a : Nat), bs x f a = f ↔ ∀ j, j < f → x.testBit (a + j) = true
  | 0, _ => by simp [bs]
  | f + 1, a => by
    have ih := bs_full x f (a + 1)
    have hle := bs_le x f (a + 1)
    simp only [bs]
    constructor
    · intro h j hj
      cases hb : x.testBit a
      · rw [hb] at h; simp at h; omega
      · rw [hb] at h
        have h2 : bs x f (a + 1) = f := by simp at h; omega
        cases j with
        | zero => simpa using hb
        | succ j =>
          have := ih.1 h2 j (by omega)
          rwa [show a + 1 + j = a + (j + 1) by omega] at this
    · intro h
      have h0 := h 0 (by omega)
      simp only [Nat.add_zero] at h0
      rw [h0, ih.2 (fun j hj => by
        have := h (j + 1) (by omega)
        rwa [show a + 1 + j = a + (j + 1) by omega])]
      simp; omega

theorem ones_sum (x : Nat) (hx : x < 131072) : ((tabv 0 : Int) + (tabv (x / 65536) : Int) + (tabv (x / 256 % 256) : Int) + (tabv (x % 256) : Int)) % 256 = (bs x 17 0 : Nat) := by
  have t0 : tabv 0 = 0 := by
    have := tabv_bs ⟨0, by omega⟩
    simpa [bs] using this
  have t1 := tabv_bs ⟨x / 65536, by omega⟩
  have t2 := tabv_bs ⟨x / 256 % 256, by omega⟩
  have t3 := tabv_bs ⟨x % 256, by omega⟩
  simp only at t1 t2 t3
  have e3 : bs (x % 256) 8 0 = bs x 8 0 := bs_congr 8 0 0 (fun j hj => by
    rw [show (256 : Nat) = 2 ^ 8 by decide, Nat.testBit_mod_two_pow]; simp; omega)
  have e2 : bs (x / 256 % 256) 8 0 = bs x 8 8 := bs_congr 8 0 8 (fun j hj => by
    rw [show (256 : Nat) = 2 ^ 8 by decide, Nat.testBit_mod_two_pow, Nat.testBit_div_two_pow]; simp [Nat.add_comm]; omega)
  have e1 : bs (x / 65536) 8 0 = bs x 8 16 := bs_congr 8 0 16 (fun j hj => by
    rw [show (65536 : Nat) = 2 ^ 16 by decide, Nat.testBit_div_two_pow]; simp [Nat.add_comm])
  have z : bs x 7 17 = 0 := bs_zero x 7 17 (fun j hj => by
    apply Nat.testBit_lt_two_pow
    calc x < 2 ^ 17 := by omega
      _ ≤ 2 ^ (17 + j) := Nat.pow_le_pow_right (by omega) (by omega))
  have s1 := bs_add x 8 9 0
  have s2 := bs_add x 8 1 8
  have s3 := bs_add x 1 7 16
  have l := bs_le x 17 0
  rw [t0, t1, t2, t3, e1, e2, e3]
  simp only [Nat.zero_add] at s1 s2 s3
  have s3' : bs x 8 16 = bs x 1 16 + bs x 7 17 := s3
  have s2' : bs x 9 8 = bs x 8 8 + bs x 1 16 := s2
  have s1' : bs x 17 0 = bs x 8 0 + bs x 9 8 := s1
  omega

/-- All ASIDs stay just if their count is all. -/
theorem ones_all (N x : Nat) (hN : N ≤ 16) (hx : x < 131072) (hb : ∀ a, x.testBit a = true → 1 ≤ a ∧ a ≤ N) : bs x 17 0 = N ↔ ∀ a, 1 ≤ a → a ≤ N → x.testBit a = true := by
  have z0 : bs x 1 0 = 0 := bs_zero x 1 0 (fun j hj => by
    obtain rfl : j = 0 := by omega
    cases h : x.testBit (0 + 0)
    · rfl
    · have := hb _ h; omega)
  have z1 : bs x (16 - N) (1 + N) = 0 := bs_zero x _ _ (fun j hj => by
    cases h : x.testBit (1 + N + j)
    · rfl
    · have := hb _ h; omega)
  have s1 := bs_add x 1 16 0
  have s2 := bs_add x N (16 - N) 1
  rw [show N + (16 - N) = 16 by omega] at s2
  have e : bs x 17 0 = bs x N 1 := by
    have s1' : bs x 17 0 = bs x 1 0 + bs x 16 1 := s1
    omega
  rw [e, bs_full]
  constructor
  · intro h a h1 h2
    have := h (a - 1) (by omega)
    rwa [show 1 + (a - 1) = a by omega] at this
  · intro h j hj
    exact h (1 + j) (by omega) (by omega)
end Go.Proofs.Ytbdphbkpglhhaaa
