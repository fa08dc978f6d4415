/- Layer 17: wakes; Ask as one plain function. -/
import Derived.Test.YtbdphbkpglhhaaaA4
namespace Go.Proofs.Ytbdphbkpglhhaaa
open Go.ChangeShapes Go.WideShapes Go.ChangeAt Go.RowKit
set_option linter.unusedVariables false

def g1 : Nat → Int := upd (fun _ => 0) 1 1
def g2 : Nat → Int := upd g1 2 2
def k2 : Nat → Int := keep 2 g2 4 3
def g3 : Nat → Int := upd k2 1 3

theorem run_nil (w : World) (R : Nat → Int) : Run w none 0 R := fun k hk => absurd hk (Nat.not_lt_zero _)

theorem wakes_ok (w : World) : Calls Try.prog 9 #[] w fun e w' => e = .returned (.bool true) ∧ Below w.heap.size w w' := by
  go_enter Try.func9, Try.ntmps9
  go_wp2_with fail
  refine (new_ok 2 _ (by omega) (by omega)).mono ?_
  rintro e w1 ⟨b, rfl, hm, hb, hB, hlt⟩
  have M1 := Lib.hid hm; have HB := Lib.hid hb; have B1 := Lib.hid hB
  clear hm hb hB
  go_wp2_with fail
  refine (ask_free b 2 1 (fun _ => 0) 1 none 0 0 _ M1.out (by omega) (by decide) (by decide) (by decide)).mono ?_
  rw [show leastA 2 (fun _ => 0) = 1 by decide, show upd (fun _ => 0) 1 1 = g1 from rfl]
  rintro e w2 ⟨rfl, hm, hg⟩
  have M2 := Lib.hid hm; have B2 := Lib.hid (below_only B1.out hg (by have := HB.out; omega) B1.out.size)
  clear hm hg
  go_wp2_with fail
  refine (ask_free b 2 1 g1 2 none 0 0 _ M2.out (by omega) (by decide) (by decide) (by decide)).mono ?_
  rw [show leastA 2 g1 = 2 by decide, show upd g1 2 2 = g2 from rfl]
  rintro e w3 ⟨rfl, hm, hg⟩
  have M3 := Lib.hid hm; have B3 := Lib.hid (below_only B2.out hg (by have := HB.out; omega) B2.out.size)
  clear hm hg
  go_wp2_with fail
  refine (ask_has b 2 1 g2 1 none 0 0 _ M3.out (by omega) (by decide) (by decide)).mono ?_
  rw [show ofA 2 g2 1 = 1 by decide]
  rintro e w4 ⟨rfl, rfl⟩
  go_wp2_with fail
  have M4 := Lib.hid (show Gi (w3.alloc (.cells #[.int .i64 2] 3)) b (2 : Nat) 1 g2 from (Below.heap_alloc _ _ _ M3.out.lt).trans M3.out)
  have B4 := Lib.hid (B3.out.alloc B3.out.size (.cells #[.int .i64 2] 3))
  have R4 : Run (w3.alloc (.cells #[.int .i64 2] 3)) (some ⟨w3.heap.size, 0, none⟩) 1 (fun _ => 2) := fun k hk => by
    obtain rfl : k = 0 := by omega
    exact ⟨w3.heap.size, 0, rfl, by simp [go_sem]⟩
  refine (ask_flush b 2 1 g2 3 _ 1 1 (fun _ => 2) _ M4.out (by omega) (by omega) R4 (by decide) (by decide) (by decide) (by decide) (by omega) (by omega) (by decide)).mono ?_
  rw [show stay 2 g2 3 (fun _ => 2) 1 = 4 by decide, show keep 2 g2 4 (2 + 1) = k2 from rfl, show leastA 2 k2 = 1 by decide, show upd k2 1 3 = g3 from rfl]
  rintro e w5 ⟨rfl, hm, hg⟩
  have M5 := Lib.hid hm; have B5 := Lib.hid (below_only B4.out hg (by have := HB.out; omega) B4.out.size)
  clear hm hg R4
  go_wp2_with fail
  refine (of_ok b 2 (1 + 1) g3 1 _ M5.out (by omega)).mono ?_
  rw [show ofA 2 g3 1 = 0 by decide, show ofB 2 g3 1 = false by decide]
  rintro e w6 ⟨rfl, rfl⟩
  go_wp2_with fail
  refine (of_ok b 2 (1 + 1) g3 2 _ M5.out (by omega)).mono ?_
  rw [show ofA 2 g3 2 = 2 by decide, show ofB 2 g3 2 = true by decide]
  rintro e w6 ⟨rfl, rfl⟩
  go_wp2_with fail
  refine (age_ok b 2 (1 + 1) g3 _ M5.out).mono ?_
  rintro e w6 ⟨rfl, rfl⟩
  go_wp2_with fail
  go_ret
  exact ⟨rfl, B5.out⟩

/-- What Ask answers, and what it makes of the giver. -/
def allS (N : Nat) (g : Nat → Int) (s : Int) (R : Nat → Int) (len : Nat) : Prop := bs (stay N g s R len) 17 0 = N
instance (N : Nat) (g : Nat → Int) (s : Int) (R : Nat → Int) (len : Nat) : Decidable (allS N g s R len) := by unfold allS; exact inferInstance
def kept (N : Nat) (g : Nat → Int) (s : Int) (R : Nat → Int) (len : Nat) : Nat → Int := keep N g (stay N g s R len) (N + 1)
def askA (N : Nat) (g : Nat → Int) (s : Int) (R : Nat → Int) (len : Nat) : Nat := if sOk s = false then 0 else if ofA N g s ≠ 0 then ofA N g s else if leastA N g ≠ 0 then leastA N g else if allS N g s R len then 0 else leastA N (kept N g s R len)
def askF (N : Nat) (g : Nat → Int) (s : Int) (R : Nat → Int) (len : Nat) : Bool := if sOk s = false then false else if ofA N g s ≠ 0 then false else if leastA N g ≠ 0 then false else if allS N g s R len then false else true
def askE (N : Nat) (g : Nat → Int) (s : Int) (R : Nat → Int) (len : Nat) : Int := if sOk s = false then 2 else if ofA N g s ≠ 0 then 0 else if leastA N g ≠ 0 then 0 else if allS N g s R len then 20 else 0
def askG (N : Nat) (g : Nat → Int) (s : Int) (R : Nat → Int) (len : Nat) : Nat → Int := if sOk s = false then g else if ofA N g s ≠ 0 then g else if leastA N g ≠ 0 then upd g (leastA N g) s else if allS N g s R len then g else upd (kept N g s R len) (leastA N (kept N g s R len)) s
def askT (N : Nat) (g : Nat → Int) (s : Int) (R : Nat → Int) (len : Nat) (age : Int) : Int := if askF N g s R len = true then age + 1 else age

theorem scan_ne {p : Nat → Bool} : ∀ {f a k : Nat}, 1 ≤ a → a ≤ k → k < a + f → p k = true → scan p f a ≠ 0
  | 0, a, k, _, h1, h2, _ => by omega
  | f + 1, a, k, h0, h1, h2, h3 => by
    cases h : p a
    · rw [scan_no h]
      have : a ≠ k := by rintro rfl; rw [h] at h3; cases h3
      exact scan_ne (by omega) (by omega) (by omega) h3
    · rw [scan_yes h]; omega

theorem flush_least (N : Nat) (g : Nat → Int) (s : Int) (R : Nat → Int) (len : Nat) (hN : N ≤ 16) (h : ¬ allS N g s R len) : leastA N (kept N g s R len) ≠ 0 := by
  have hall := ones_all N (stay N g s R len) hN (stay_lt N g s R hN len) (fun a ha => by
    have := (stay_bit N g s R a len).1 ha
    exact ⟨this.2.1, this.2.2.1⟩)
  unfold allS at h
  rw [hall] at h
  have : ∃ a, 1 ≤ a ∧ a ≤ N ∧ (stay N g s R len).testBit a = false := by
    apply Classical.byContradiction
    intro hn
    apply h
    intro a h1 h2
    cases hb : (stay N g s R len).testBit a
    · exact absurd ⟨a, h1, h2, hb⟩ hn
    · rfl
  obtain ⟨a, h1, h2, hb⟩ := this
  refine scan_ne (k := a) (by omega) h1 (by omega) ?_
  simp only [kept, keep]
  rw [if_pos ⟨h1, by omega, hb⟩]
  rfl

theorem ask_any (b N : Nat) (age : Int) (g : Nat → Int) (s : Int) (ao : Option Addr) (len cap : Nat) (R : Nat → Int) (w : World) (hg : Gi w b N age g) (hN : N ≤ 16) (hlen : len ≤ 20) (hR : Run w ao len R) (a0 : 0 ≤ age) (a1 : age ≤ 1000000) :
    Calls Try.prog 13 #[.pointer (some ⟨b, 0, none⟩), .int .i64 s, .slice ao len cap] w fun e w' => e = .returned (.tuple #[.int .i64 (askA N g s R len), .bool (askF N g s R len), .int .i64 (askE N g s R len)]) ∧ Gi w' b N (askT N g s R len age) (askG N g s R len) ∧ w.grownBy w' (some b) := by
  cases hs : sOk s
  · simp only [askT, askA, askF, askE, askG, hs, if_true, Bool.false_eq_true, if_false]
    refine (ask_bad b N age g s ao len cap w hs).mono ?_
    rintro e w' ⟨rfl, rfl⟩
    exact ⟨rfl, hg, World.grownBy.refl _ _⟩
  · by_cases hA : ofA N g s = 0
    · by_cases hL : leastA N g = 0
      · by_cases hall : allS N g s R len
        · simp only [askT, askA, askF, askE, askG, hs, hA, hL, hall, ne_eq, not_true, if_true, if_false, Bool.true_eq_false, Bool.false_eq_true]
          exact ask_full b N age g s ao len cap R w hg hN hlen hR hs hA hL hall
        · have hL2 := flush_least N g s R len hN hall
          simp only [askT, askA, askF, askE, askG, hs, hA, hL, hall, ne_eq, not_true, if_true, if_false, Bool.true_eq_false]
          exact ask_flush b N age g s ao len cap R w hg hN hlen hR hs hA hL hall a0 a1 hL2
      · simp only [askT, askA, askF, askE, askG, hs, hA, hL, ne_eq, not_true, not_false_eq_true, if_true, if_false, Bool.true_eq_false, Bool.false_eq_true]
        exact ask_free b N age g s ao len cap w hg hN hs hA hL
    · simp only [askT, askA, askF, askE, askG, hs, hA, ne_eq, not_false_eq_true, if_true, if_false, Bool.true_eq_false, Bool.false_eq_true]
      refine (ask_has b N age g s ao len cap w hg hN hs hA).mono ?_
      rintro e w' ⟨rfl, rfl⟩
      exact ⟨rfl, hg, World.grownBy.refl _ _⟩
end Go.Proofs.Ytbdphbkpglhhaaa
