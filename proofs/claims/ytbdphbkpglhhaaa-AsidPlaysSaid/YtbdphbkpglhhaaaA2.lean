/- Layer 17: elsewhere, OnesCount32. -/
import Derived.Test.YtbdphbkpglhhaaaA1
namespace Go.Proofs.Ytbdphbkpglhhaaa
open Go.ChangeShapes Go.WideShapes Go.ChangeAt Go.RowKit
set_option linter.unusedVariables false

/-- The bits of those of the first k running ASIDs that are given to another space. -/
def stay (N : Nat) (g : Nat → Int) (s : Int) (R : Nat → Int) : Nat → Nat
  | 0 => 0
  | k + 1 => if 1 ≤ R k ∧ R k ≤ N ∧ g (R k).toNat ≠ 0 ∧ g (R k).toNat ≠ s then stay N g s R k ||| 2 ^ (R k).toNat else stay N g s R k

theorem stay_lt (N : Nat) (g : Nat → Int) (s : Int) (R : Nat → Int) (hN : N ≤ 16) : ∀ k, stay N g s R k < 131072
  | 0 => by simp [stay]
  | k + 1 => by
    simp only [stay]
    split
    · rename_i h
      have h2 : 2 ^ (R k).toNat < 2 ^ 17 := Nat.pow_lt_pow_right (by omega) (by omega)
      exact Nat.or_lt_two_pow (n := 17) (stay_lt N g s R hN k) h2
    · exact stay_lt N g s R hN k

theorem stay_bit (N : Nat) (g : Nat → Int) (s : Int) (R : Nat → Int) (a : Nat) : ∀ k, (stay N g s R k).testBit a = true ↔ (∃ j, j < k ∧ R j = (a : Int)) ∧ 1 ≤ a ∧ a ≤ N ∧ g a ≠ 0 ∧ g a ≠ s
  | 0 => by simp [stay]
  | k + 1 => by
    have ih := stay_bit N g s R a k
    simp only [stay]
    split
    · rename_i h
      rw [Nat.testBit_or, Bool.or_eq_true, ih, Nat.testBit_two_pow]
      constructor
      · rintro (⟨⟨j, hj, e⟩, h2⟩ | hd)
        · exact ⟨⟨j, by omega, e⟩, h2⟩
        · have e : (R k).toNat = a := by simpa using hd
          rw [← e]
          exact ⟨⟨k, by omega, by omega⟩, by omega, by omega, h.2.2.1, h.2.2.2⟩
      · rintro ⟨⟨j, hj, e⟩, h2⟩
        by_cases hjk : j = k
        · right
          subst hjk
          have : (R j).toNat = a := by omega
          simp [this]
        · exact .inl ⟨⟨j, by omega, e⟩, h2⟩
    · rename_i h
      rw [ih]
      constructor
      · rintro ⟨⟨j, hj, e⟩, h2⟩
        exact ⟨⟨j, by omega, e⟩, h2⟩
      · rintro ⟨⟨j, hj, e⟩, h2⟩
        refine ⟨⟨j, ?_, e⟩, h2⟩
        by_cases hjk : j = k
        · exfalso
          subst hjk
          apply h
          have : (R j).toNat = a := by omega
          rw [this]
          exact ⟨by omega, by omega, h2.2.2.1, h2.2.2.2⟩
        · omega

theorem or_pow (m a : Nat) (hm : m < 131072) (ha : a ≤ 16) : bits BinOp.or IntKind.u32 (m : Int) (2 ^ a % 4294967296) = ((m ||| 2 ^ a : Nat) : Int) := by
  have h2 : (2 : Nat) ^ a ≤ 2 ^ 16 := Nat.pow_le_pow_right (by omega) ha
  have e : ((2 : Int) ^ a % 4294967296) = ((2 ^ a : Nat) : Int) := by
    rw [show (2 : Int) ^ a = ((2 ^ a : Nat) : Int) from (Int.natCast_pow 2 a).symm]
    generalize 2 ^ a = P at *
    omega
  rw [e]
  generalize 2 ^ a = P at *
  exact u32_or_nat m P (by omega) (by omega)

theorem else_ok (b N : Nat) (age : Int) (g : Nat → Int) (s : Int) (ao : Option Addr) (len cap : Nat) (R : Nat → Int) (w : World) (hg : Gi w b N age g) (hN : N ≤ 16) (hlen : len ≤ 20)
    (hz : ∀ k, k < len → ∃ rb off, ao = some ⟨rb, off, none⟩ ∧ w.cell? ⟨rb, off + k, none⟩ = some (.int .i64 (R k))) :
    Calls Try.prog 24 #[.pointer (some ⟨b, 0, none⟩), .int .i64 s, .slice ao len cap] w fun e w' => e = .returned (.int .u32 (stay N g s R len : Nat)) ∧ w = w' := by
  have c0 := hg.c0
  have HG := Lib.hid hg; have HZ := Lib.hid hz
  clear hg hz
  go_enter Try.func24, Try.ntmps24
  go_wp2_with fail
  go_loop [7, 13] (fun t i => ∃ k : Nat, k ≤ len ∧ i = .int .i64 k ∧ t = .int .u32 (stay N g s R k : Nat)) (fun _ i => len - (intOf i).toNat)
  case atStart => exact ⟨0, by omega, rfl, rfl⟩
  case round =>
    obtain ⟨k, hk, rfl, rfl⟩ := hrel
    by_cases hlk : k < len
    · obtain ⟨rb, off, rfl, hcell⟩ := HZ.out k hlk
      by_cases h1 : 1 ≤ R k
      · by_cases h2 : R k ≤ N
        · have hc := HG.out.c (R k).toNat (by omega)
          have hd1 : decide (R k < 1) = false := by simp; omega
          have hd2 : decide ((N : Int) < R k) = false := by simp; omega
          cases h3 : (g (R k).toNat != 0)
          · have h3' : g (R k).toNat = 0 := by simpa using h3
            have HP : Hid (stay N g s R (k + 1) = stay N g s R k) := by simp [Hid, stay, h3']
            clear h3'
            go_wp2_with fail
            go_round
            case rel => exact ⟨k + 1, by omega, by go_num, by rw [HP.out]⟩
            case measure => simp [intOf]; omega
          · cases h4 : (g (R k).toNat != s)
            · have h4' : g (R k).toNat = s := by simpa using h4
              have HP : Hid (stay N g s R (k + 1) = stay N g s R k) := by simp [Hid, stay, h4']
              clear h4'
              go_wp2_with fail
              go_round
              case rel => exact ⟨k + 1, by omega, by go_num, by rw [HP.out]⟩
              case measure => simp [intOf]; omega
            · have h3' : g (R k).toNat ≠ 0 := by simpa using h3
              have h4' : g (R k).toNat ≠ s := by simpa using h4
              have HP : Hid (stay N g s R (k + 1) = stay N g s R k ||| 2 ^ (R k).toNat) := by simp [Hid, stay, h1, h2, h3', h4']
              clear h3' h4'
              have hlt := stay_lt N g s R hN k
              have HL := Lib.hid hlt
              clear hlt
              go_wp2_with fail
              go_round
              case rel =>
                refine ⟨k + 1, by omega, by go_num, ?_⟩
                rw [HP.out, or_pow _ _ HL.out (by omega)]
              case measure => simp [intOf]; omega
        · have hd1 : decide (R k < 1) = false := by simp; omega
          have hd2 : decide ((N : Int) < R k) = true := by simp; omega
          have HP : Hid (stay N g s R (k + 1) = stay N g s R k) := by simp [Hid, stay, h2]
          go_wp2_with fail
          go_round
          case rel => exact ⟨k + 1, by omega, by go_num, by rw [HP.out]⟩
          case measure => simp [intOf]; omega
      · have hd1 : decide (R k < 1) = true := by simp; omega
        have HP : Hid (stay N g s R (k + 1) = stay N g s R k) := by simp [Hid, stay, h1]
        go_wp2_with fail
        go_round
        case rel => exact ⟨k + 1, by omega, by go_num, by rw [HP.out]⟩
        case measure => simp [intOf]; omega
    · go_wp2_with fail
      go_ret
      have : k = len := by omega
      subst this
      exact ⟨rfl, rfl⟩

def tab8 : ByteArray := ⟨#[0, 1, 1, 2, 1, 2, 2, 3, 1, 2, 2, 3, 2, 3, 3, 4, 1, 2, 2, 3, 2, 3, 3, 4, 2, 3, 3, 4, 3, 4, 4, 5, 1, 2, 2, 3, 2, 3, 3, 4, 2, 3, 3, 4, 3, 4, 4, 5, 2, 3, 3, 4, 3, 4, 4, 5, 3, 4, 4, 5, 4, 5, 5, 6, 1, 2, 2, 3, 2, 3, 3, 4, 2, 3, 3, 4, 3, 4, 4, 5, 2, 3, 3, 4, 3, 4, 4, 5, 3, 4, 4, 5, 4, 5, 5, 6, 2, 3, 3, 4, 3, 4, 4, 5, 3, 4, 4, 5, 4, 5, 5, 6, 3, 4, 4, 5, 4, 5, 5, 6, 4, 5, 5, 6, 5, 6, 6, 7, 1, 2, 2, 3, 2, 3, 3, 4, 2, 3, 3, 4, 3, 4, 4, 5, 2, 3, 3, 4, 3, 4, 4, 5, 3, 4, 4, 5, 4, 5, 5, 6, 2, 3, 3, 4, 3, 4, 4, 5, 3, 4, 4, 5, 4, 5, 5, 6, 3, 4, 4, 5, 4, 5, 5, 6, 4, 5, 5, 6, 5, 6, 6, 7, 2, 3, 3, 4, 3, 4, 4, 5, 3, 4, 4, 5, 4, 5, 5, 6, 3, 4, 4, 5, 4, 5, 5, 6, 4, 5, 5, 6, 5, 6, 6, 7, 3, 4, 4, 5, 4, 5, 5, 6, 4, 5, 5, 6, 5, 6, 6, 7, 4, 5, 5, 6, 5, 6, 6, 7, 5, 6, 6, 7, 6, 7, 7, 8]⟩
theorem tab8_size : tab8.size = 256 := by decide +kernel
/-- How many bits of a byte are 1, off the table. -/
def tabv (i : Nat) : Nat := if h : i < tab8.size then tab8[i].toNat else 0
theorem tabv_at (i : Nat) (h : i < tab8.size) : tab8[i].toNat = tabv i := by simp [tabv, h]

theorem ret_int {k : IntKind} {a b : Int} (h : a = b) : Ending.returned (.int k a) = .returned (.int k b) := by rw [h]
set_option maxRecDepth 100000 in
theorem ones_ok (x y z t : Nat) (w : World) (hx : x < 131072) (hy : x / 256 % 256 = y) (hz : x % 256 = z) (ht : (x : Int) / 65536 = (t : Int)) (ht2 : t ≤ 1) :
    Calls Try.prog 25 #[.int .u32 x] w fun e w' => e = .returned (.int .i64 (((tabv 0 : Int) + (tabv t : Int) + (tabv y : Int) + (tabv z : Int)) % 256)) ∧ ∃ n, w' = w.drewN n := by
  have e24 : (x : Int) / 16777216 = 0 := by omega
  have a1 : bits BinOp.and IntKind.u32 ((x : Int) / 256) 255 = (y : Int) := by
    have := u32_and_nat (x / 256) 255 (by omega) (by omega)
    have e2 : (x / 256) &&& 255 = y := by rw [← hy]; exact Nat.and_two_pow_sub_one_eq_mod (x / 256) 8
    rw [e2] at this
    exact this
  have a0 : bits BinOp.and IntKind.u32 (x : Int) 255 = (z : Int) := by
    have := u32_and_nat x 255 (by omega) (by omega)
    have e2 : x &&& 255 = z := by rw [← hz]; exact Nat.and_two_pow_sub_one_eq_mod x 8
    rw [e2] at this
    exact this
  have a2 : bits BinOp.and IntKind.u32 (t : Int) 255 = (t : Int) := by
    have := u32_and_nat t 255 (by omega) (by omega)
    have e2 : t &&& 255 = t := by rw [show (255 : Nat) = 2 ^ 8 - 1 by decide, Nat.and_two_pow_sub_one_eq_mod]; omega
    rw [e2] at this
    exact this
  have y0 : (0 : Int) ≤ (y : Int) := by omega
  have y1 : (y : Int) < 256 := by omega
  have z0 : (0 : Int) ≤ (z : Int) := by omega
  have z1 : (z : Int) < 256 := by omega
  have t0 : (0 : Int) ≤ (t : Int) := by omega
  have t1 : (t : Int) < 256 := by omega
  clear hy hz
  go_enter Try.func25, Try.ntmps25
  go_wp2_with fail
  go_quiet (fail)
  go_wp2_with fail
  go_ret
  refine ⟨?_, _, rfl⟩
  have hv : ∀ (T : ByteArray) (h0 : 0 < T.size) (h1 : t < T.size) (h2 : y < T.size) (h3 : z < T.size), T = tab8 → ((T[0].toNat : Int) + (T[t].toNat : Int) + (T[y].toNat : Int) + (T[z].toNat : Int)) % 256 = (((tabv 0 : Int) + (tabv t : Int) + (tabv y : Int) + (tabv z : Int)) % 256) := by
    intro T h0 h1 h2 h3 hT
    subst hT
    rw [tabv_at, tabv_at, tabv_at, tabv_at]
  exact ret_int (hv _ _ _ _ _ rfl)
end Go.Proofs.Ytbdphbkpglhhaaa
