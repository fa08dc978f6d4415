/- Layer 17: Ask. -/
import Derived.Test.YtbdphbkpglhhaaaA3
namespace Go.Proofs.Ytbdphbkpglhhaaa
open Go.ChangeShapes Go.WideShapes Go.ChangeAt Go.RowKit
set_option linter.unusedVariables false

/-- A slice of running ASIDs: its cells. -/
def Run (w : World) (ao : Option Addr) (len : Nat) (R : Nat → Int) : Prop := ∀ k, k < len → ∃ rb off, ao = some ⟨rb, off, none⟩ ∧ w.cell? ⟨rb, off + k, none⟩ = some (.int .i64 (R k))

theorem ask_bad (b N : Nat) (age : Int) (g : Nat → Int) (s : Int) (ao : Option Addr) (len cap : Nat) (w : World) (hs : sOk s = false) :
    Calls Try.prog 13 #[.pointer (some ⟨b, 0, none⟩), .int .i64 s, .slice ao len cap] w fun e w' => e = .returned (.tuple #[.int .i64 0, .bool false, .int .i64 2]) ∧ w = w' := by
  have HS := Lib.hid hs
  clear hs
  go_enter Try.func13, Try.ntmps13
  go_wp2_with fail
  refine (isSpace s _).mono ?_
  rw [show (decide (1 ≤ s) && decide (s ≤ 6)) = false from HS.out]
  rintro e w' ⟨rfl, rfl⟩
  go_wp2_with fail
  go_ret3
  exact ⟨rfl, rfl⟩

theorem ask_has (b N : Nat) (age : Int) (g : Nat → Int) (s : Int) (ao : Option Addr) (len cap : Nat) (w : World) (hg : Gi w b N age g) (hN : N ≤ 16) (hs : sOk s = true) (hA : ofA N g s ≠ 0) :
    Calls Try.prog 13 #[.pointer (some ⟨b, 0, none⟩), .int .i64 s, .slice ao len cap] w fun e w' => e = .returned (.tuple #[.int .i64 (ofA N g s), .bool false, .int .i64 0]) ∧ w = w' := by
  have HS := Lib.hid hs; have HG := Lib.hid hg; have HA := Lib.hid hA
  clear hs hg hA
  go_enter Try.func13, Try.ntmps13
  go_wp2_with fail
  refine (isSpace s _).mono ?_
  rw [show (decide (1 ≤ s) && decide (s ≤ 6)) = true from HS.out]
  rintro e w' ⟨rfl, rfl⟩
  go_wp2_with fail
  refine (of_ok b N age g s _ HG.out hN).mono ?_
  rw [show ofB N g s = true from by simpa [ofB] using HA.out]
  rintro e w' ⟨rfl, rfl⟩
  go_wp2_with fail
  go_ret3
  exact ⟨rfl, rfl⟩

/-- The least free ASID; 0: none. -/
def leastA (N : Nat) (g : Nat → Int) : Nat := scan (fun a => g a == 0) N 1
theorem leastA_le (N : Nat) (g : Nat → Int) : leastA N g ≤ N := by
  unfold leastA
  rcases scan_le (fun a => g a == 0) N 1 with h | ⟨h1, h2, h3⟩ <;> omega

theorem ask_free (b N : Nat) (age : Int) (g : Nat → Int) (s : Int) (ao : Option Addr) (len cap : Nat) (w : World) (hg : Gi w b N age g) (hN : N ≤ 16) (hs : sOk s = true) (hA : ofA N g s = 0) (hL : leastA N g ≠ 0) :
    Calls Try.prog 13 #[.pointer (some ⟨b, 0, none⟩), .int .i64 s, .slice ao len cap] w fun e w' => e = .returned (.tuple #[.int .i64 (leastA N g), .bool false, .int .i64 0]) ∧ Gi w' b N age (upd g (leastA N g) s) ∧ w.grownBy w' (some b) := by
  have HS := Lib.hid hs; have HG := Lib.hid hg; have HA := Lib.hid hA
  have hle := leastA_le N g
  have hL2 : ((leastA N g : Int) != 0) = true := by simp; omega
  have HL2 := Lib.hid hL2
  clear hs hg hA hL hL2
  go_enter Try.func13, Try.ntmps13
  go_wp2_with fail
  refine (isSpace s _).mono ?_
  rw [show (decide (1 ≤ s) && decide (s ≤ 6)) = true from HS.out]
  rintro e w' ⟨rfl, rfl⟩
  go_wp2_with fail
  refine (of_ok b N age g s _ HG.out hN).mono ?_
  rw [show ofB N g s = false from by simp [ofB, HA.out]]
  rintro e w' ⟨rfl, rfl⟩
  go_wp2_with fail
  refine (least_ok b N age g _ HG.out hN).mono ?_
  rintro e w' ⟨rfl, rfl⟩
  rw [show scan (fun a => g a == 0) N 1 = leastA N g from rfl]
  have hL3 := HL2.out
  have hc := HG.out.c (leastA N g) (by omega)
  have hf := HG.out.free (2 + leastA N g)
  have hz : leastA N g < 17 := by omega
  go_wp2_with fail
  go_ret3
  exact ⟨rfl, HG.out.set _ (by omega) s, only_setCell (World.grownBy.refl _ _) rfl _⟩

theorem ones_at (x : Nat) (w : World) (hx : x < 131072) :
    Calls Try.prog 25 #[.int .u32 x] w fun e w' => e = .returned (.int .i64 (bs x 17 0 : Nat)) ∧ ∃ n, w' = w.drewN n := by
  have h := ones_ok x (x / 256 % 256) (x % 256) (x / 65536) w hx rfl rfl (by omega) (by omega)
  rw [ones_sum x hx] at h
  exact h

theorem ask_full (b N : Nat) (age : Int) (g : Nat → Int) (s : Int) (ao : Option Addr) (len cap : Nat) (R : Nat → Int) (w : World) (hg : Gi w b N age g) (hN : N ≤ 16) (hlen : len ≤ 20) (hR : Run w ao len R) (hs : sOk s = true) (hA : ofA N g s = 0) (hL : leastA N g = 0) (hall : bs (stay N g s R len) 17 0 = N) :
    Calls Try.prog 13 #[.pointer (some ⟨b, 0, none⟩), .int .i64 s, .slice ao len cap] w fun e w' => e = .returned (.tuple #[.int .i64 0, .bool false, .int .i64 20]) ∧ Gi w' b N age g ∧ w.grownBy w' (some b) := by
  have HS := Lib.hid hs; have HG := Lib.hid hg; have HA := Lib.hid hA; have HL := Lib.hid hL; have HR := Lib.hid hR; have HALL := Lib.hid hall
  have c0 := hg.c0
  clear hs hg hA hL hR hall
  go_enter Try.func13, Try.ntmps13
  go_wp2_with fail
  refine (isSpace s _).mono ?_
  rw [show (decide (1 ≤ s) && decide (s ≤ 6)) = true from HS.out]
  rintro e w' ⟨rfl, rfl⟩
  go_wp2_with fail
  refine (of_ok b N age g s _ HG.out hN).mono ?_
  rw [show ofB N g s = false from by simp [ofB, HA.out]]
  rintro e w' ⟨rfl, rfl⟩
  go_wp2_with fail
  refine (least_ok b N age g _ HG.out hN).mono ?_
  rintro e w' ⟨rfl, rfl⟩
  rw [show scan (fun a => g a == 0) N 1 = 0 from HL.out]
  go_wp2_with fail
  refine (else_ok b N age g s ao len cap R _ HG.out hN hlen HR.out).mono ?_
  rintro e w' ⟨rfl, rfl⟩
  have hlt := stay_lt N g s R hN len
  go_wp2_with fail
  go_quiet ((go_at_call 25; refine Calls.quiet_of (ones_at _ _ hlt)))
  rw [HALL.out]
  go_wp2_with fail
  go_ret3
  exact ⟨rfl, HG.out, ⟨rfl, rfl, rfl, Nat.le_refl _, fun _ _ _ => rfl⟩⟩

/-- Who stays at an age's end. -/
def keep (N : Nat) (g : Nat → Int) (x : Nat) (k : Nat) : Nat → Int := fun a => if 1 ≤ a ∧ a < k ∧ x.testBit a = false then 0 else g a

theorem bit_and (x k : Nat) (hx : x < 131072) : (bits BinOp.and IntKind.u32 ((x : Int) / 2 ^ k) 1 == 0) = !x.testBit k := by
  have e : ((x : Int) / 2 ^ k) = ((x / 2 ^ k : Nat) : Int) := by
    rw [show (2 : Int) ^ k = ((2 ^ k : Nat) : Int) from (Int.natCast_pow 2 k).symm, Int.natCast_ediv]
  have h2 : x / 2 ^ k ≤ x := Nat.div_le_self _ _
  rw [e]
  have h3 := u32_and_nat (x / 2 ^ k) 1 (by omega) (by omega)
  have e1 : ((1 : Nat) : Int) = 1 := rfl
  rw [e1] at h3
  rw [h3, Nat.and_one_is_mod]
  have h4 : x.testBit k = decide (x / 2 ^ k % 2 = 1) := Nat.testBit_eq_decide_div_mod_eq
  rw [h4]
  have h5 : x / 2 ^ k % 2 = 0 ∨ x / 2 ^ k % 2 = 1 := by omega
  rcases h5 with h5 | h5 <;> simp [h5]
theorem keep_no {N : Nat} {g : Nat → Int} {x k : Nat} (h : x.testBit k = false) (hk : 1 ≤ k) (j : Nat) : upd (keep N g x k) k 0 j = keep N g x (k + 1) j := by
  simp only [upd, keep]
  by_cases hj : j = k
  · subst hj
    rw [if_pos rfl, if_pos ⟨by omega, by omega, h⟩]
  · rw [if_neg hj]
    have e : (j < k + 1) = (j < k) := by simp; omega
    simp only [e]
theorem keep_yes {N : Nat} {g : Nat → Int} {x k : Nat} (h : x.testBit k = true) (j : Nat) : keep N g x k j = keep N g x (k + 1) j := by
  simp only [keep]
  by_cases hj : j = k
  · subst hj
    rw [if_neg (by omega), if_neg (by simp [h])]
  · have e : (j < k + 1) = (j < k) := by simp; omega
    simp only [e]

set_option maxHeartbeats 400000 in
theorem ask_flush (b N : Nat) (age : Int) (g : Nat → Int) (s : Int) (ao : Option Addr) (len cap : Nat) (R : Nat → Int) (w : World) (hg : Gi w b N age g) (hN : N ≤ 16) (hlen : len ≤ 20) (hR : Run w ao len R) (hs : sOk s = true) (hA : ofA N g s = 0) (hL : leastA N g = 0) (hall : bs (stay N g s R len) 17 0 ≠ N) (a0 : 0 ≤ age) (a1 : age ≤ 1000000) (hL2 : leastA N (keep N g (stay N g s R len) (N + 1)) ≠ 0) :
    Calls Try.prog 13 #[.pointer (some ⟨b, 0, none⟩), .int .i64 s, .slice ao len cap] w fun e w' => e = .returned (.tuple #[.int .i64 (leastA N (keep N g (stay N g s R len) (N + 1))), .bool true, .int .i64 0]) ∧ Gi w' b N (age + 1) (upd (keep N g (stay N g s R len) (N + 1)) (leastA N (keep N g (stay N g s R len) (N + 1))) s) ∧ w.grownBy w' (some b) := by
  have HS := Lib.hid hs; have HG := Lib.hid hg; have HA := Lib.hid hA; have HL := Lib.hid hL; have HR := Lib.hid hR
  have hne : (((bs (stay N g s R len) 17 0 : Nat) : Int) == (N : Int)) = false := by simp; omega
  have HALL := Lib.hid hne
  have HL2 := Lib.hid hL2
  have c0 := hg.c0
  have hlt := stay_lt N g s R hN len
  clear hs hg hA hL hR hall hne hL2
  go_enter Try.func13, Try.ntmps13
  go_wp2_with fail
  refine (isSpace s _).mono ?_
  rw [show (decide (1 ≤ s) && decide (s ≤ 6)) = true from HS.out]
  rintro e w' ⟨rfl, rfl⟩
  go_wp2_with fail
  refine (of_ok b N age g s _ HG.out hN).mono ?_
  rw [show ofB N g s = false from by simp [ofB, HA.out]]
  rintro e w' ⟨rfl, rfl⟩
  go_wp2_with fail
  refine (least_ok b N age g _ HG.out hN).mono ?_
  rintro e w' ⟨rfl, rfl⟩
  rw [show scan (fun a => g a == 0) N 1 = 0 from HL.out]
  go_wp2_with fail
  refine (else_ok b N age g s ao len cap R _ HG.out hN hlen HR.out).mono ?_
  rintro e w' ⟨rfl, rfl⟩
  generalize hX : stay N g s R len = x at *
  have HX := Lib.hid hX
  clear hX
  go_wp2_with fail
  go_quiet ((go_at_call 25; refine Calls.quiet_of (ones_at _ _ hlt)))
  have hM : ∃ M : Nat, bs x 17 0 = M := ⟨_, rfl⟩
  obtain ⟨M, hM⟩ := hM
  have HALL2 : Hid (((M : Int) == (N : Int)) = false) := by rw [← hM]; exact HALL.out
  rw [hM]
  clear hM HALL
  have hne := HALL2.out
  go_wp2_with fail
  have HG1 := Lib.hid (show Gi (w.drewN nq) b N age g from HG.out)
  have G1 := Lib.hid (show w.grownBy (w.drewN nq) (some b) from ⟨rfl, rfl, rfl, Nat.le_refl _, fun _ _ _ => rfl⟩)
  refine (aAdd b age _ a0 a1 HG1.out.c1 (HG1.out.free 1)).mono ?_
  rintro e w1 ⟨rfl, rfl⟩
  have HG2 := Lib.hid (HG1.out.age (age + 1))
  have G2 := Lib.hid (only_setCell (p := ⟨b, 1, none⟩) G1.out rfl (.int .i64 (age + 1)))
  clear HG1 G1 hne
  generalize (w.drewN nq).setCell ⟨b, 1, none⟩ (.int .i64 (age + 1)) = w2 at *
  go_wp2_with fail
  go_loopw [13] (fun i wr => ∃ k : Nat, 1 ≤ k ∧ k ≤ N + 1 ∧ i = .int .i64 k ∧ Gi wr b N (age + 1) (keep N g x k) ∧ w.grownBy wr (some b)) (fun i _ => 17 - (intOf i).toNat)
  case atStart => exact ⟨1, by omega, by omega, rfl, HG2.out.congr (fun k hk => by simp only [keep]; rw [if_neg (by omega)]), G2.out⟩
  case round =>
    obtain ⟨k, hk1, hk2, rfl, hgk, hgr⟩ := hrel
    have d0 := hgk.c0
    have HK := Lib.hid hgk; have HGR := Lib.hid hgr
    clear hgk hgr
    by_cases hkn : k ≤ N
    · have hc := HK.out.c k (by omega)
      have hf := HK.out.free (2 + k)
      have hz : k < 17 := by omega
      cases hb : x.testBit k
      · have hbit : (bits BinOp.and IntKind.u32 ((x : Int) / 2 ^ k) 1 == 0) = true := by rw [bit_and x k hlt, hb]; rfl
        have HB := Lib.hid hb
        clear hb
        go_wp2_with fail
        go_roundw
        case rel => exact ⟨k + 1, by omega, by omega, by go_num, (HK.out.set k (by omega) 0).congr (fun j hj => keep_no HB.out hk1 j), only_setCell HGR.out rfl _⟩
        case measure => simp [intOf]; omega
      · have hbit : (bits BinOp.and IntKind.u32 ((x : Int) / 2 ^ k) 1 == 0) = false := by rw [bit_and x k hlt, hb]; rfl
        have HB := Lib.hid hb
        clear hb
        go_wp2_with fail
        go_roundw
        case rel => exact ⟨k + 1, by omega, by omega, by go_num, HK.out.congr (fun j hj => keep_yes HB.out j), HGR.out⟩
        case measure => simp [intOf]; omega
    · obtain rfl : k = N + 1 := by omega
      go_wp2_with fail
      refine (least_ok b N (age + 1) _ _ HK.out hN).mono ?_
      rintro e w' ⟨rfl, rfl⟩
      rw [show scan (fun a => keep N g x (N + 1) a == 0) N 1 = leastA N (keep N g x (N + 1)) from rfl]
      have hle := leastA_le N (keep N g x (N + 1))
      have hc := HK.out.c (leastA N (keep N g x (N + 1))) (by omega)
      have hf := HK.out.free (2 + leastA N (keep N g x (N + 1)))
      have hz : leastA N (keep N g x (N + 1)) < 17 := by omega
      go_wp2_with fail
      go_ret3
      rw [HX.out]
      exact ⟨rfl, HK.out.set _ (by omega) s, only_setCell HGR.out rfl _⟩
end Go.Proofs.Ytbdphbkpglhhaaa
