/- Layer 9: free, May. -/
import Derived.Test.YtdmcmpbappjdoaaDoorD4
import Derived.Deep.RegionHeld3
namespace Go.Proofs.YtdmcmpbappjdoaaDoor
open Go.ChangeShapes Go.WideShapes Go.ChangeAt Go.RowKit
set_option linter.unusedVariables false

theorem below_drewN {B : Nat} {a w : World} (h : Below B a w) (n : Nat) : Below B a (w.drewN n) := ⟨h.os, h.tape, h.output, h.size, h.block⟩
theorem below_ldrewN {B : Nat} {a w : World} {n : Nat} (h : Below B (a.drewN n) w) : Below B a w := ⟨h.os, h.tape, h.output, h.size, h.block⟩
theorem below_of_drew {W w1 : World} {B : Nat} (h : Below W.drew.heap.size W.drew w1) (hB : B ≤ W.heap.size) : Below B W w1 := ⟨h.os, h.tape, h.output, h.size, fun i hi => h.block i (Nat.lt_of_lt_of_le hi hB)⟩
theorem TK.drew {w : World} (h : TK w) : TK w.drew := h
def boxE (w : World) (e : Ent) : World := w.alloc (.cells #[.int .i8 e.k, .int .u64 e.wd, .int .u64 e.v, .int .i64 e.fr, .int .i64 e.fm] 31)
theorem boxE_size (w : World) (e : Ent) : (boxE w e).heap.size = w.heap.size + 1 := by simp [boxE]
def stopB (e x : Ent) : Bool := isBar e || touchB e x
set_option maxHeartbeats 1000000 in
theorem stop_ok (e x : Ent) (n cap K p2 p3 b off : Nat) (w : World) (hk : TK w) (he : e.ok) (hx : x.ok) (hp2 : w.cell? ⟨p2, 0, none⟩ = some (.slice (some ⟨b, off, none⟩) n cap)) (hp3 : w.cell? ⟨p3, 0, none⟩ = some (.int .i64 K)) (hKn : K < n) (hn : n ≤ 9223372036854775807) (hE : E5 w b (off + K * 5) x) :
    Calls Tryd.prog 31 #[e.agg, .pointer (some ⟨p2, 0, none⟩), .pointer (some ⟨p3, 0, none⟩)] w fun ε w' => ε = .returned (.bool (stopB e x)) ∧ Below w.heap.size w w' := by
  have HK := Lib.hid hk; have HE := Lib.hid he; have HX := Lib.hid hx
  have l2 := lt_of_cell hp2
  have l3 := lt_of_cell hp3
  have lb := hE.lt
  simp only at l2 l3
  have x0 := hE.c0; have x1 := hE.c1; have x2 := hE.c2; have x3 := hE.c3; have x4 := hE.c4
  have BB := Lib.hid ((Below.refl w.heap.size w).alloc (Nat.le_refl _) (.cells #[.int .i8 e.k, .int .u64 e.wd, .int .u64 e.v, .int .i64 e.fr, .int .i64 e.fm] 31))
  have l2' : p2 < w.heap.size + 1 := by omega
  have l3' : p3 < w.heap.size + 1 := by omega
  have lb' : b < w.heap.size + 1 := by omega
  clear hk he hx hE
  cases hb : (e.k == 1)
  · have HS := Lib.hid (show stopB e x = touchB e x by simp [stopB, isBar, hb])
    go_enter Tryd.func31, Tryd.ntmps31
    go_wp2_with fail
    go_region_held3 (fun wv => wv.cell? ⟨w.heap.size, 0, none⟩ = some (.int .i8 e.k) ∧ wv.cell? ⟨w.heap.size, 1, none⟩ = some (.int .u64 e.wd) ∧ wv.cell? ⟨w.heap.size, 2, none⟩ = some (.int .u64 e.v) ∧ wv.cell? ⟨w.heap.size, 3, none⟩ = some (.int .i64 e.fr) ∧ wv.cell? ⟨w.heap.size, 4, none⟩ = some (.int .i64 e.fm) ∧ wv.cell? ⟨p2, 0, none⟩ = some (.slice (some ⟨b, off, none⟩) n cap) ∧ wv.cell? ⟨p3, 0, none⟩ = some (.int .i64 K) ∧ wv.cell? ⟨b, off + K * 5, none⟩ = some (.int .i8 x.k) ∧ wv.cell? ⟨b, off + K * 5 + 1, none⟩ = some (.int .u64 x.wd) ∧ wv.cell? ⟨b, off + K * 5 + 2, none⟩ = some (.int .u64 x.v) ∧ wv.cell? ⟨b, off + K * 5 + 3, none⟩ = some (.int .i64 x.fr) ∧ wv.cell? ⟨b, off + K * 5 + 4, none⟩ = some (.int .i64 x.fm)) (go_keep)
      (first | (go_at_call 20; refine (touch_ok e x _ ?_ HE.out HX.out).mono ?_; exact TK.drew (HK.out.below BB.out); rintro ε w1 ⟨rfl, hb1⟩; have hold := oldc (below_of_drew (W := boxE w e) hb1 (Nat.le_of_eq (boxE_size w e).symm)); unfold boxE at hold; have B1 := Lib.hid (BB.out.trans (below_of_drew (B := w.heap.size) (W := boxE w e) hb1 (Nat.le_of_lt (Nat.lt_of_lt_of_eq (Nat.lt_succ_self _) (boxE_size w e).symm)))); clear hb1))
    all_goals
      go_wp2_with fail
      go_ret
      exact ⟨by rw [HS.out]; rfl, B1.out⟩
  · have HS := Lib.hid (show stopB e x = true by simp [stopB, isBar, hb])
    go_enter Tryd.func31, Tryd.ntmps31
    go_wp2_with fail
    go_quiet (fail)
    go_wp2_with fail
    go_ret
    exact ⟨by rw [HS.out]; rfl, below_drewN BB.out _⟩

/-- May the entry at place K go, ahead of which none stops it? -/
def freeB (l : List Ent) (K : Nat) : Bool := (List.range K).all (fun i => !stopB (nt l i) (nt l K)) && !isBar (nt l K)
theorem free_no {l : List Ent} {K i : Nat} (hi : i < K) (h : stopB (nt l i) (nt l K) = true) : freeB l K = false := by
  cases hb : freeB l K
  · rfl
  · simp only [freeB, Bool.and_eq_true, List.all_eq_true, List.mem_range] at hb
    have := hb.1 i hi
    rw [h] at this
    cases this
theorem free_yes {l : List Ent} {K : Nat} (h : ∀ i, i < K → stopB (nt l i) (nt l K) = false) : freeB l K = !isBar (nt l K) := by
  have : (List.range K).all (fun i => !stopB (nt l i) (nt l K)) = true := by
    rw [List.all_eq_true]
    intro i hi
    rw [h i (by simpa using hi)]
    rfl
  simp [freeB, this]

set_option maxHeartbeats 1000000 in
theorem free_ok (b off cap : Nat) (l : List Ent) (n K : Nat) (w : World) (hn : n = l.length) (hcap : n ≤ cap) (hcap2 : cap ≤ 9223372036854775807) (hk : TK w) (he : Ents w (some ⟨b, off, none⟩) l) (ho : Oks l) (hK : K < n) :
    Calls Tryd.prog 23 #[.slice (some ⟨b, off, none⟩) n cap, .int .i64 K] w fun ε w' => ε = .returned (.bool (freeB l K)) ∧ Below w.heap.size w w' := by
  have HN := Lib.hid hn; have HK := Lib.hid hk; have HE := Lib.hid he; have HO := Lib.hid ho
  obtain ⟨b', off', e', x⟩ := he K (by omega)
  cases e'
  have HX := Lib.hid x
  have HXO := Lib.hid (ho.at (i := K) (by omega))
  have lb := x.lt
  have BB := Lib.hid (((Below.refl w.heap.size w).alloc (Nat.le_refl _) (.cells #[.slice (some ⟨b, off, none⟩) n cap] 22)).alloc (by simp) (.cells #[.int .i64 K] 3))
  clear hk he ho hn x
  go_enter Tryd.func23, Tryd.ntmps23
  go_wp2_with fail
  go_loopw [14] (fun i wr => ∃ k : Nat, k ≤ K ∧ i = .int .i64 k ∧ (∀ j, j < k → stopB (nt l j) (nt l K) = false) ∧ Below (w.heap.size + 2) ((w.alloc (.cells #[.slice (some ⟨b, off, none⟩) n cap] 22)).alloc (.cells #[.int .i64 K] 3)) wr) (fun i _ => K - (intOf i).toNat)
  case atStart => exact ⟨0, by omega, rfl, fun j hj => by omega, Below.refl _ _⟩
  case round =>
    obtain ⟨k, hkK, rfl, hno, hbe⟩ := hrel
    have HNO := Lib.hid hno; have HBE := Lib.hid hbe
    have BE := Lib.hid (BB.out.trans (hbe.mono (by omega)))
    have hzr : w.heap.size + 2 ≤ wr.heap.size := by have := hbe.size; simp at this; omega
    have hc := oldc hbe
    clear hno hbe
    by_cases hk : k < K
    · obtain ⟨b', off', e', x⟩ := HE.out k (by have := HN.out; omega)
      cases e'
      have x' := x.below BE.out
      have x0 := x'.c0; have x1 := x'.c1; have x2 := x'.c2; have x3 := x'.c3; have x4 := x'.c4
      have HOK := Lib.hid (HO.out.at (i := k) (by have := HN.out; omega))
      clear x x' hc
      go_wp2_with fail
      have BA := Lib.hid (HBE.out.alloc (by omega) (.cells #[.int .i8 (nt l k).k, .int .u64 (nt l k).wd, .int .u64 (nt l k).v, .int .i64 (nt l k).fr, .int .i64 (nt l k).fm] 31))
      have BA2 := Lib.hid (BE.out.alloc (by omega) (.cells #[.int .i8 (nt l k).k, .int .u64 (nt l k).wd, .int .u64 (nt l k).v, .int .i64 (nt l k).fr, .int .i64 (nt l k).fm] 31))
      refine (stop_ok (nt l k) (nt l K) n cap K w.heap.size (w.heap.size + 1) b off _ (HK.out.below BA2.out) HOK.out HXO.out ((oldc BA.out _ _ (by omega)).trans (by simp [go_sem])) ((oldc BA.out _ _ (by omega)).trans (by simp [go_sem])) hK (by omega) (HX.out.below BA2.out)).mono ?_
      rintro ε w1 ⟨rfl, hb1⟩
      have B1 := Lib.hid (BA.out.trans (hb1.mono (by simp; omega)))
      have B2 := Lib.hid (BA2.out.trans (hb1.mono (by simp; omega)))
      clear hb1 x0 x1 x2 x3 x4
      cases hst : stopB (nt l k) (nt l K)
      · have HST := Lib.hid hst
        go_wp2_with fail
        go_roundw
        case rel => exact ⟨k + 1, by omega, by go_num, fun j hj => by
          by_cases hjk : j = k
          · subst hjk; exact HST.out
          · exact HNO.out j (by omega), B1.out⟩
        case measure => simp [intOf]; omega
      · have HF := Lib.hid (free_no hk hst)
        go_wp2_with fail
        go_ret
        exact ⟨by rw [HF.out]; rfl, B2.out⟩
    · obtain rfl : k = K := by omega
      have x0 := (HX.out.below BE.out).c0
      have hF := free_yes HNO.out
      have HF := Lib.hid hF
      clear hF
      cases hb : ((nt l k).k != 1)
      · have HB := Lib.hid (show isBar (nt l k) = true by simpa [isBar] using hb)
        go_wp2_with fail
        go_ret
        exact ⟨by rw [HF.out, HB.out]; rfl, BE.out⟩
      · have HB := Lib.hid (show isBar (nt l k) = false by simpa [isBar] using hb)
        go_wp2_with fail
        go_ret
        exact ⟨by rw [HF.out, HB.out]; rfl, BE.out⟩

def mayAt (l : List Ent) (k : Int) : Bool := checkB l && decide (0 ≤ k) && decide (k < l.length) && freeB l k.toNat
theorem cc_eq (b : Bool) : (cc b == 0) = b := by cases b <;> rfl
theorem cc_ne (b : Bool) : (cc b != 0) = !b := by cases b <;> rfl

set_option maxHeartbeats 400000 in
theorem mayAt_ok (ao : Option Addr) (cap : Nat) (l : List Ent) (n : Nat) (k : Int) (w : World) (hn : n = l.length) (hcap : n ≤ cap) (hcap2 : cap ≤ 9223372036854775807) (hk : TK w) (he : Ents w ao l) (ho : Oks l) :
    Calls Tryd.prog 10 #[.slice ao n cap, .int .i64 k] w fun ε w' => ε = .returned (.bool (mayAt l k)) ∧ Below w.heap.size w w' := by
  have HN := Lib.hid hn; have HK := Lib.hid hk; have HE := Lib.hid he; have HO := Lib.hid ho
  clear hk he ho hn
  go_enter Tryd.func10, Tryd.ntmps10
  go_wp2_with fail
  refine (check_ok ao cap l n _ HN.out (by omega) HK.out HE.out HO.out).mono ?_
  rintro ε w1 ⟨rfl, hb1⟩
  have B1 := Lib.hid hb1
  clear hb1
  cases hc : checkB l
  · have HM := Lib.hid (show mayAt l k = false by simp [mayAt, hc])
    have hcc : (cc false == 0) = false := rfl
    go_wp2_with fail
    go_ret
    exact ⟨by rw [HM.out]; rfl, B1.out⟩
  · have hcc : (cc true == 0) = true := rfl
    have HC := Lib.hid hc
    clear hc
    by_cases h0 : 0 ≤ k
    · obtain ⟨K, rfl⟩ : ∃ K : Nat, k = K := ⟨k.toNat, by omega⟩
      by_cases h1 : K < n
      · obtain ⟨b, off, rfl, _⟩ := HE.out K (by have := HN.out; omega)
        have HM := Lib.hid (show mayAt l K = freeB l K by
          have h2 : K < l.length := by have := HN.out; omega
          simp [mayAt, HC.out, h2])
        go_wp2_with fail
        refine (free_ok b off cap l n K _ HN.out hcap hcap2 (HK.out.below B1.out) (HE.out.below B1.out) HO.out h1).mono ?_
        rintro ε w2 ⟨rfl, hb2⟩
        have B2 := Lib.hid (B1.out.trans (hb2.mono B1.out.size))
        clear hb2
        go_wp2_with fail
        go_ret
        exact ⟨by rw [HM.out]; rfl, B2.out⟩
      · have HM := Lib.hid (show mayAt l K = false by
          have h2 : ¬ K < l.length := by have := HN.out; omega
          simp [mayAt, h2])
        have h1' : decide (K < n) = false := by simpa using h1
        go_wp2_with fail
        go_ret
        exact ⟨by rw [HM.out]; rfl, B1.out⟩
    · have HM := Lib.hid (show mayAt l k = false by simp [mayAt, h0])
      have h0' : decide (0 ≤ k) = false := by simpa using h0
      go_wp2_with fail
      go_ret
      exact ⟨by rw [HM.out]; rfl, B1.out⟩
end Go.Proofs.YtdmcmpbappjdoaaDoor
