/- Layer 9: entries, the table of kinds; frameMay, may. -/
import Derived.Test.YtdmcmpbappjdoaaDoorProg
import Derived.WalkKit
import Derived.ProofKit
import Derived.OpenShut
import Derived.Outline
import Derived.Lib.Hide
import Derived.OneCell
import Derived.WalkSpells
import Derived.WalkLawsBesides
import Derived.Deep.QuietTactic
import Derived.BigQuiet
import Derived.LoopTactic
import Derived.Below
namespace Go.Proofs.YtdmcmpbappjdoaaDoor
open Go.ChangeShapes Go.WideShapes Go.ChangeAt Go.RowKit
set_option linter.unusedVariables false

/-- An entry. -/
structure Ent where
  k : Int
  wd : Int
  v : Int
  fr : Int
  fm : Int
abbrev Ent.agg (e : Ent) : Value := .agg #[.int .i8 e.k, .int .u64 e.wd, .int .u64 e.v, .int .i64 e.fr, .int .i64 e.fm]
/-- Its numbers fit their kinds. -/
structure Ent.ok (e : Ent) : Prop where
  k0 : -128 ≤ e.k
  k1 : e.k ≤ 127
  w0 : 0 ≤ e.wd
  w1 : e.wd ≤ 18446744073709551615
  v0 : 0 ≤ e.v
  v1 : e.v ≤ 18446744073709551615
  r0 : -9223372036854775808 ≤ e.fr
  r1 : e.fr ≤ 9223372036854775807
  m0 : -9223372036854775808 ≤ e.fm
  m1 : e.fm ≤ 9223372036854775807

def kW (K : Nat) : Bool := K == 0
def kF (K : Nat) : Bool := K == 2 || K == 3
def kR (K : Nat) : Bool := K == 3
/-- The table of kinds lies in the first block. -/
def TK (w : World) : Prop := ∀ K : Nat, K < 4 → w.cell? ⟨0, K * 3, none⟩ = some (.bool (kW K)) ∧ w.cell? ⟨0, K * 3 + 1, none⟩ = some (.bool (kF K)) ∧ w.cell? ⟨0, K * 3 + 2, none⟩ = some (.bool (kR K))
theorem lt_of_cell {w : World} {a : Addr} {v : Value} (h : w.cell? a = some v) : a.block < w.heap.size := by
  unfold World.cell? at h
  by_cases hb : a.block < w.heap.size
  · exact hb
  · rw [Array.getElem?_eq_none (by omega)] at h; cases h
theorem TK.lt {w : World} (h : TK w) : 0 < w.heap.size := lt_of_cell (h 0 (by omega)).1
theorem TK.below {w w' : World} (h : TK w) (hb : Below w.heap.size w w') : TK w' := fun K hK =>
  ⟨(hb.cell (p := ⟨0, _, none⟩) h.lt).trans (h K hK).1, (hb.cell (p := ⟨0, _, none⟩) h.lt).trans (h K hK).2.1, (hb.cell (p := ⟨0, _, none⟩) h.lt).trans (h K hK).2.2⟩
theorem TK.alloc {w : World} (h : TK w) (o : Obj) : TK (w.alloc o) := h.below ((Below.refl _ _).alloc (Nat.le_refl _) _)
theorem TK.drewN {w : World} (h : TK w) (n : Nat) : TK (w.drewN n) := h

def fmB (fm : Int) (nm : Bool) : Bool := fm == 0 || (nm && decide (0 < fm) && decide (fm ≤ 1048576))
theorem fm_ok (fm : Int) (nm : Bool) (w : World) : Calls Tryd.prog 30 #[.int .i64 fm, .bool nm] w fun e w' => e = .returned (.bool (fmB fm nm)) ∧ w = w' := by
  unfold fmB
  cases h0 : (fm == 0)
  · cases nm
    · go_enter Tryd.func30, Tryd.ntmps30
      go_wp2
      go_ret
      exact ⟨rfl, rfl⟩
    · cases h1 : decide (0 < fm)
      · go_enter Tryd.func30, Tryd.ntmps30
        go_wp2
        go_ret
        exact ⟨rfl, rfl⟩
      · go_enter Tryd.func30, Tryd.ntmps30
        go_wp2
        go_ret
        exact ⟨rfl, rfl⟩
  · go_enter Tryd.func30, Tryd.ntmps30
    go_wp2
    go_ret
    exact ⟨rfl, rfl⟩

/-- May an entry be? -/
def restB (K : Nat) (wd v : Int) : Bool := if kW K then decide (wd < 1099511627776) else wd == 0 && v == 0
def mayB (e : Ent) : Bool := decide (0 ≤ e.k) && decide (e.k < 4) && restB e.k.toNat e.wd e.v && fmB e.fm (kF e.k.toNat) && fmB e.fr (kR e.k.toNat)

theorem may_ok (e : Ent) (w : World) (hk : TK w) (ho : e.ok) : Calls Tryd.prog 22 #[e.agg] w fun ε w' => ε = .returned (.bool (mayB e)) ∧ Below w.heap.size w w' := by
  obtain ⟨k, wd, v, fr, fm⟩ := e
  obtain ⟨k0, k1, w0, w1, v0, v1, r0, r1, m0, m1⟩ := ho
  unfold mayB Ent.agg
  simp only at k0 k1 w0 w1 v0 v1 r0 r1 m0 m1 ⊢
  by_cases hneg : k < 0
  · have d1 : decide (0 ≤ k) = false := by simp; omega
    have HD := Lib.hid d1
    clear d1
    go_enter Tryd.func22, Tryd.ntmps22
    go_wp2_with fail
    go_ret
    exact ⟨by rw [HD.out]; rfl, (Below.refl _ _).alloc (Nat.le_refl _) _⟩
  · by_cases hbig : 4 ≤ k
    · have d1 : decide (k < 4) = false := by simp; omega
      have HD := Lib.hid d1
      clear d1
      go_enter Tryd.func22, Tryd.ntmps22
      go_wp2_with fail
      go_ret
      exact ⟨by rw [HD.out]; simp, (Below.refl _ _).alloc (Nat.le_refl _) _⟩
    · obtain ⟨K, rfl⟩ : ∃ K : Nat, k = K := ⟨k.toNat, by omega⟩
      have hK : K < 4 := by omega
      obtain ⟨t0, t1, t2⟩ := hk K hK
      have hlt := hk.lt
      have d1 : decide (0 ≤ (K : Int)) = true := by simp
      have d2 : decide ((K : Int) < 4) = true := by simp; omega
      rw [d1, d2, Int.toNat_natCast]
      have HK := Lib.hid hk
      clear hk d1 d2
      cases hW : kW K
      · cases hx : (wd != 0)
        · cases hy : (v != 0)
          · have HR := Lib.hid (show restB K wd v = true by simp at hx hy; simp [restB, hW, hx, hy])
            go_enter Tryd.func22, Tryd.ntmps22
            go_wp2_with fail
            refine (fm_ok fm (kF K) _).mono ?_
            rintro ε w' ⟨rfl, rfl⟩
            cases hf : fmB fm (kF K)
            · go_wp2_with fail
              go_ret
              exact ⟨by rw [HR.out, hf]; rfl, ((Below.refl _ _).alloc (Nat.le_refl _) _).alloc (by simp) _⟩
            · go_wp2_with fail
              refine (fm_ok fr (kR K) _).mono ?_
              rintro ε w' ⟨rfl, rfl⟩
              go_wp2_with fail
              go_ret
              exact ⟨by rw [HR.out, hf]; rfl, ((Below.refl _ _).alloc (Nat.le_refl _) _).alloc (by simp) _⟩
          · have HR := Lib.hid (show restB K wd v = false by simp at hx hy; simp [restB, hW, hx, hy])
            go_enter Tryd.func22, Tryd.ntmps22
            go_wp2_with fail
            go_ret
            exact ⟨by rw [HR.out]; rfl, ((Below.refl _ _).alloc (Nat.le_refl _) _).alloc (by simp) _⟩
        · have HR := Lib.hid (show restB K wd v = false by simp at hx; simp [restB, hW, hx])
          go_enter Tryd.func22, Tryd.ntmps22
          go_wp2_with fail
          go_ret
          exact ⟨by rw [HR.out]; rfl, ((Below.refl _ _).alloc (Nat.le_refl _) _).alloc (by simp) _⟩
      · cases hx : decide (1099511627776 ≤ wd)
        · have HR := Lib.hid (show restB K wd v = true by simp at hx; simp [restB, hW, hx])
          go_enter Tryd.func22, Tryd.ntmps22
          go_wp2_with fail
          refine (fm_ok fm (kF K) _).mono ?_
          rintro ε w' ⟨rfl, rfl⟩
          cases hf : fmB fm (kF K)
          · go_wp2_with fail
            go_ret
            exact ⟨by rw [HR.out, hf]; rfl, ((Below.refl _ _).alloc (Nat.le_refl _) _).alloc (by simp) _⟩
          · go_wp2_with fail
            refine (fm_ok fr (kR K) _).mono ?_
            rintro ε w' ⟨rfl, rfl⟩
            go_wp2_with fail
            go_ret
            exact ⟨by rw [HR.out, hf]; rfl, ((Below.refl _ _).alloc (Nat.le_refl _) _).alloc (by simp) _⟩
        · have HR := Lib.hid (show restB K wd v = false by simp at hx; simp [restB, hW, hx])
          go_enter Tryd.func22, Tryd.ntmps22
          go_wp2_with fail
          go_ret
          exact ⟨by rw [HR.out]; rfl, ((Below.refl _ _).alloc (Nat.le_refl _) _).alloc (by simp) _⟩
end Go.Proofs.YtdmcmpbappjdoaaDoor
