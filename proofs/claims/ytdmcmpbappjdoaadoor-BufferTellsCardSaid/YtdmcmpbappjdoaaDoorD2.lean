/- Layer 9: rows of entries; Check. -/
import Derived.Test.YtdmcmpbappjdoaaDoorD1
namespace Go.Proofs.YtdmcmpbappjdoaaDoor
open Go.ChangeShapes Go.WideShapes Go.ChangeAt Go.RowKit
set_option linter.unusedVariables false

/-- Five cells read as an entry. -/
structure E5 (w : World) (b o : Nat) (e : Ent) : Prop where
  c0 : w.cell? ⟨b, o, none⟩ = some (.int .i8 e.k)
  c1 : w.cell? ⟨b, o + 1, none⟩ = some (.int .u64 e.wd)
  c2 : w.cell? ⟨b, o + 2, none⟩ = some (.int .u64 e.v)
  c3 : w.cell? ⟨b, o + 3, none⟩ = some (.int .i64 e.fr)
  c4 : w.cell? ⟨b, o + 4, none⟩ = some (.int .i64 e.fm)
theorem E5.lt {w : World} {b o : Nat} {e : Ent} (h : E5 w b o e) : b < w.heap.size := lt_of_cell h.c0
theorem E5.below {w w' : World} {b o : Nat} {e : Ent} (h : E5 w b o e) (hb : Below w.heap.size w w') : E5 w' b o e :=
  ⟨(hb.cell (p := ⟨b, _, none⟩) h.lt).trans h.c0, (hb.cell (p := ⟨b, _, none⟩) h.lt).trans h.c1, (hb.cell (p := ⟨b, _, none⟩) h.lt).trans h.c2, (hb.cell (p := ⟨b, _, none⟩) h.lt).trans h.c3, (hb.cell (p := ⟨b, _, none⟩) h.lt).trans h.c4⟩

def e0 : Ent := ⟨0, 0, 0, 0, 0⟩
def nt (l : List Ent) (i : Nat) : Ent := l[i]?.getD e0
/-- A slice reads as a row of entries. -/
def Ents (w : World) (ao : Option Addr) (l : List Ent) : Prop := ∀ i, i < l.length → ∃ b off, ao = some ⟨b, off, none⟩ ∧ E5 w b (off + i * 5) (nt l i)
theorem Ents.below {w w' : World} {ao : Option Addr} {l : List Ent} (h : Ents w ao l) (hb : Below w.heap.size w w') : Ents w' ao l := fun i hi => by
  obtain ⟨b, off, e, x⟩ := h i hi
  exact ⟨b, off, e, x.below hb⟩
theorem Ents.drewN {w : World} {ao : Option Addr} {l : List Ent} (h : Ents w ao l) (n : Nat) : Ents (w.drewN n) ao l := fun i hi => by
  obtain ⟨b, off, e, x⟩ := h i hi
  exact ⟨b, off, e, ⟨x.c0, x.c1, x.c2, x.c3, x.c4⟩⟩
def Oks (l : List Ent) : Prop := ∀ e ∈ l, e.ok
theorem nt_mem {l : List Ent} {i : Nat} (h : i < l.length) : nt l i ∈ l := by
  unfold nt
  rw [List.getElem?_eq_getElem h]
  exact List.getElem_mem h
theorem Oks.at {l : List Ent} (h : Oks l) {i : Nat} (hi : i < l.length) : (nt l i).ok := h _ (nt_mem hi)

def isBar (e : Ent) : Bool := e.k == 1
def headBar : List Ent → Bool
  | [] => false
  | e :: _ => isBar e
def checkB (l : List Ent) : Bool := decide (l.length ≤ 8) && !headBar l && l.all mayB
def cc (b : Bool) : Int := if b = true then 0 else 2
theorem headBar_nt {l : List Ent} (h : 0 < l.length) : headBar l = isBar (nt l 0) := by
  cases l with
  | nil => simp at h
  | cons a l => rfl
theorem all_nt (l : List Ent) (p : Ent → Bool) : l.all p = true ↔ ∀ i, i < l.length → p (nt l i) = true := by
  rw [List.all_eq_true]
  constructor
  · intro h i hi; exact h _ (nt_mem hi)
  · intro h x hx
    obtain ⟨i, hi, rfl⟩ := List.getElem_of_mem hx
    have := h i hi
    unfold nt at this
    rwa [List.getElem?_eq_getElem hi] at this
theorem all_no {l : List Ent} {p : Ent → Bool} {i : Nat} (hi : i < l.length) (h : p (nt l i) = false) : l.all p = false := by
  cases hb : l.all p
  · rfl
  · rw [(all_nt l p).1 hb i hi] at h; cases h

set_option maxHeartbeats 400000 in
theorem check_ok (ao : Option Addr) (cap : Nat) (l : List Ent) (n : Nat) (w : World) (hn : n = l.length) (hcap : n ≤ 9223372036854775807) (hk : TK w) (he : Ents w ao l) (ho : Oks l) :
    Calls Tryd.prog 7 #[.slice ao n cap] w fun ε w' => ε = .returned (.int .i64 (cc (checkB l))) ∧ Below w.heap.size w w' := by
  have HN := Lib.hid hn; have HK := Lib.hid hk; have HE := Lib.hid he; have HO := Lib.hid ho
  clear hk he ho
  by_cases h8 : 8 < n
  · have HC := Lib.hid (show checkB l = false by simp [checkB]; omega)
    clear hn
    go_enter Tryd.func7, Tryd.ntmps7
    go_wp2_with fail
    go_ret
    exact ⟨by rw [HC.out]; rfl, Below.refl _ _⟩
  · by_cases h0 : 0 < n
    · obtain ⟨b, off, rfl, x⟩ := HE.out 0 (by omega)
      have x0 := x.c0
      simp only [Nat.zero_mul, Nat.add_zero] at x0
      cases hb : ((nt l 0).k == 1)
      · have HB := Lib.hid (show headBar l = false by rw [headBar_nt (by omega)]; exact hb)
        have hlt := x.lt
        clear hn x
        go_enter Tryd.func7, Tryd.ntmps7
        go_wp2_with fail
        clear x0 hb
        go_loopw [22] (fun i wr => ∃ k : Nat, k ≤ n ∧ i = .int .i64 k ∧ (∀ j, j < k → mayB (nt l j) = true) ∧ Below w.heap.size w wr) (fun i _ => 8 - (intOf i).toNat)
        case atStart => exact ⟨0, by omega, rfl, fun j hj => by omega, Below.refl _ _⟩
        case round =>
          obtain ⟨k, hkn, rfl, hall, hbe⟩ := hrel
          have HALL := Lib.hid hall; have HBE := Lib.hid hbe
          clear hall hbe
          by_cases hk : k < n
          · obtain ⟨b', off', e', x⟩ := HE.out k (by have := HN.out; omega)
            cases e'
            have x' := x.below HBE.out
            have x0 := x'.c0; have x1 := x'.c1; have x2 := x'.c2; have x3 := x'.c3; have x4 := x'.c4
            have HOK := Lib.hid (HO.out.at (i := k) (by have := HN.out; omega))
            clear x x'
            go_wp2_with fail
            refine (may_ok (nt l k) _ ((HK.out.below HBE.out).alloc _) HOK.out).mono ?_
            rintro ε w1 ⟨rfl, hb1⟩
            have B1 := Lib.hid ((HBE.out.alloc HBE.out.size (.cells #[.int .i8 (nt l k).k, .int .u64 (nt l k).wd, .int .u64 (nt l k).v, .int .i64 (nt l k).fr, .int .i64 (nt l k).fm] 31)).trans (hb1.mono (by have := HBE.out.size; simp; omega)))
            clear hb1 x0 x1 x2 x3 x4
            cases hm : mayB (nt l k)
            · have HC := Lib.hid (show checkB l = false by simp only [checkB, all_no (p := mayB) (i := k) (by have := HN.out; omega) hm, Bool.and_false])
              go_wp2_with fail
              go_ret
              exact ⟨by rw [HC.out]; rfl, B1.out⟩
            · have HM := Lib.hid hm
              go_wp2_with fail
              go_roundw
              case rel => exact ⟨k + 1, by omega, by go_num, fun j hj => by
                by_cases hjk : j = k
                · subst hjk; exact HM.out
                · exact HALL.out j (by omega), B1.out⟩
              case measure => simp [intOf]; omega
          · obtain rfl : k = n := by omega
            have HC := Lib.hid (show checkB l = true by
              have h1 := (all_nt l mayB).2 (fun i hi => HALL.out i (by have := HN.out; omega))
              have h2 := HB.out
              have h3 : l.length ≤ 8 := by have := HN.out; omega
              simp [checkB, h1, h2, h3])
            go_wp2_with fail
            go_ret
            exact ⟨by rw [HC.out]; rfl, HBE.out⟩
      · have HC := Lib.hid (show checkB l = false by
          have h1 : headBar l = true := by rw [headBar_nt (by omega)]; exact hb
          simp [checkB, h1])
        clear hn x
        go_enter Tryd.func7, Tryd.ntmps7
        go_wp2_with fail
        go_ret
        exact ⟨by rw [HC.out]; rfl, Below.refl _ _⟩
    · obtain rfl : n = 0 := by omega
      obtain rfl : l = [] := List.length_eq_zero_iff.1 hn.symm
      clear hn
      go_enter Tryd.func7, Tryd.ntmps7
      go_wp2_with fail
      refine wp_loop_rounds 1 ?_
      rw [rounds_succ]
      go_wp2_with fail
      go_ret
      exact ⟨rfl, Below.refl _ _⟩
end Go.Proofs.YtdmcmpbappjdoaaDoor
