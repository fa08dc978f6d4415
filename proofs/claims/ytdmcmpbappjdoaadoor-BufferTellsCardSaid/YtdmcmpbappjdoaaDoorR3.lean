/- Layer 9: the document's first, Same. -/
import Derived.Test.YtdmcmpbappjdoaaDoorR2
namespace Go.Proofs.YtdmcmpbappjdoaaDoor
open Go.ChangeShapes Go.WideShapes Go.ChangeAt Go.RowKit
set_option linter.unusedVariables false
attribute [local go_sem ↓] ne_run

def dw (l : List Ent) (k : Nat) : List Ent := (l.take k).dropWhile isBar
theorem dw_snoc {l : List Ent} {k : Nat} (hk : k < l.length) : dw l (k + 1) = if (dw l k).length = 0 then (if isBar (nt l k) = true then [] else [nt l k]) else dw l k ++ [nt l k] := by
  have h1 : l[k] = nt l k := by unfold nt; rw [List.getElem?_eq_getElem hk]; rfl
  unfold dw
  rw [List.take_succ_eq_append_getElem hk, List.dropWhile_append, h1]
  cases hd : (List.take k l).dropWhile isBar with
  | nil =>
    simp only [List.isEmpty_nil, if_true, List.length_nil, List.dropWhile_cons, List.dropWhile_nil]
  | cons a r => simp
theorem dw_le (l : List Ent) (k : Nat) : (dw l k).length ≤ k := by
  unfold dw
  have h1 := (List.dropWhile_sublist isBar (l := l.take k)).length_le
  rw [List.length_take] at h1
  omega
theorem own_slice {w : World} {base m : Nat} {v : Value} {xs : List Value} (h : w.ownsRow base 31 5 v m xs) : ∃ ao c, v = .slice ao m c := by
  rcases h.2 with ⟨rfl, hn⟩ | ⟨g, cap, cur, rfl, _⟩
  · exact ⟨none, 0, by rw [hn]⟩
  · exact ⟨_, cap, rfl⟩
theorem news1 {W : World} {b : Nat} {e : Ent} (hb : b = W.heap.size) : ∀ j u, (cellsE [e])[j]? = some u → (W.alloc (.cells (rowE e) 31 (0, 0))).cell? ((⟨b, 0, none⟩ : Addr).add j) = some u := by
  subst hb
  exact (ents_one (heap_alloc_new W (.cells (rowE e) 31 (0, 0)))).news

set_option maxHeartbeats 1000000 in
theorem first_ok (ao : Option Addr) (cap : Nat) (l : List Ent) (n : Nat) (w : World) (hn : n = l.length) (hn1 : n ≤ 100) (he : Ents w ao l) :
    Calls Tryd.prog 27 #[.slice ao n cap] w (RowPost w (l.dropWhile isBar)) := by
  obtain ⟨i0, hi, hz0, hz1, hz2⟩ := info_parts Tryd.info31
  have HI := Lib.hid hi; have HZ0 := Lib.hid hz0; have HZ1 := Lib.hid hz1; have HZ2 := Lib.hid hz2
  have HN := Lib.hid hn; have HE := Lib.hid he
  clear hi hz0 hz1 hz2 hn he
  go_enter Tryd.func27, Tryd.ntmps27
  go_wp2_with fail
  go_loopw [3, 4] (fun s3 i wr => ∃ (k m : Nat) (a3 : Option Addr) (c3 : Nat), k ≤ n ∧ i = .int .i64 k ∧ s3 = .slice a3 m c3 ∧ m = (dw l k).length ∧ wr.ownsRow w.heap.size 31 5 (.slice a3 m c3) m (cellsE (dw l k)) ∧ Below w.heap.size w wr) (fun _ i _ => n - (intOf i).toNat)
  case atStart => exact ⟨0, 0, none, 0, by omega, rfl, rfl, rfl, ⟨rfl, .inl ⟨rfl, rfl⟩⟩, Below.refl _ _⟩
  case round =>
    obtain ⟨k, m, a3, c3, hkn, rfl, rfl, hm, hown, hbe⟩ := hrel
    have hml : m ≤ k := by have := dw_le l k; omega
    have HM := Lib.hid hm; have HOW := Lib.hid hown; have HBE := Lib.hid hbe
    have hzr : w.heap.size ≤ wr.heap.size := hbe.size
    clear hm hown hbe
    by_cases hk : k < n
    · obtain ⟨b, off, rfl, x⟩ := (HE.out.below HBE.out) k (by have := HN.out; omega)
      obtain ⟨x0, x1, x2, x3, x4⟩ := x
      have HSN := Lib.hid (dw_snoc (l := l) (k := k) (by have := HN.out; omega))
      have hpush : (0 < m ∨ (m = 0 ∧ ((nt l k).k != 1) = true)) ∨ (m = 0 ∧ ((nt l k).k != 1) = false) := by
        cases hb : ((nt l k).k != 1)
        · by_cases h0 : m = 0
          · exact .inr ⟨h0, rfl⟩
          · exact .inl (.inl (by omega))
        · by_cases h0 : m = 0
          · exact .inl (.inr ⟨h0, rfl⟩)
          · exact .inl (.inl (by omega))
      rcases hpush with hpush | ⟨h0, hb⟩
      · have HS2 := Lib.hid (show dw l (k + 1) = dw l k ++ [nt l k] by
          rw [HSN.out]
          rcases hpush with h | ⟨h, hb⟩
          · rw [if_neg (by have := HM.out; omega)]
          · have h' : (dw l k).length = 0 := by have := HM.out; omega
            rw [if_pos h', if_neg (by simpa [isBar] using hb), List.length_eq_zero_iff.1 h']
            rfl)
        rcases hpush with h0 | ⟨h0, hb⟩
        · have g0 : decide (0 < (m : Int)) = true := by simp; omega
          have g1 : decide (0 < m) = true := by simpa using h0
          go_wp2_with (at_builtin; refine wpList_append_own _ rfl _ _ 22 rfl w.heap.size 31 i0 _ 5 40 Tryd.underlying22 HI.out HZ0.out HZ1.out HZ2.out rfl (by decide) (.slice a3 m c3) m (cellsE (dw l k)) rfl (HOW.out.alloc _) ⟨wr.heap.size, 0, none⟩ 1 1 (cellsE [nt l k]) rfl rfl (news1 rfl) (cellsE_one _) (by unfold maxLen; omega) (by omega) (by simp; omega) ?_)
          intro v' w3 hown3 hgr3 _
          obtain ⟨a4, c4, rfl⟩ := own_slice hown3
          have HOW3 := Lib.hid hown3
          have B3 := Lib.hid ((HBE.out.alloc (by omega) _).grown hgr3 (by simp; omega) (fun q hq => (HOW.out.lt q hq).1))
          clear hown3 hgr3
          go_wp2_with fail
          go_roundw
          case rel => exact ⟨k + 1, _, a4, c4, by omega, by go_num, rfl, by rw [HS2.out, List.length_append, ← HM.out]; rfl, by rw [HS2.out, cellsE_app]; exact HOW3.out, B3.out⟩
          case measure => simp [intOf]; omega
        · subst h0
          go_wp2_with (at_builtin; refine wpList_append_own _ rfl _ _ 22 rfl w.heap.size 31 i0 _ 5 40 Tryd.underlying22 HI.out HZ0.out HZ1.out HZ2.out rfl (by decide) (.slice a3 0 c3) 0 (cellsE (dw l k)) rfl (HOW.out.alloc _) ⟨wr.heap.size, 0, none⟩ 1 1 (cellsE [nt l k]) rfl rfl (news1 rfl) (cellsE_one _) (by unfold maxLen; omega) (by omega) (by simp; omega) ?_)
          intro v' w3 hown3 hgr3 _
          obtain ⟨a4, c4, rfl⟩ := own_slice hown3
          have HOW3 := Lib.hid hown3
          have B3 := Lib.hid ((HBE.out.alloc (by omega) _).grown hgr3 (by simp; omega) (fun q hq => (HOW.out.lt q hq).1))
          clear hown3 hgr3
          go_wp2_with fail
          go_roundw
          case rel => exact ⟨k + 1, _, a4, c4, by omega, by go_num, rfl, by rw [HS2.out, List.length_append, ← HM.out]; rfl, by rw [HS2.out, cellsE_app]; exact HOW3.out, B3.out⟩
          case measure => simp [intOf]; omega
      · have HS2 := Lib.hid (show dw l (k + 1) = dw l k by
          have h' : (dw l k).length = 0 := by have := HM.out; omega
          rw [HSN.out, if_pos h', if_pos (by simpa [isBar] using hb), List.length_eq_zero_iff.1 h'])
        subst h0
        go_wp2_with fail
        go_roundw
        case rel => exact ⟨k + 1, 0, a3, c3, by omega, by go_num, rfl, by rw [HS2.out]; exact HM.out, by rw [HS2.out]; exact HOW.out, HBE.out⟩
        case measure => simp [intOf]; omega
    · obtain rfl : k = n := by omega
      have HD := Lib.hid (show dw l k = l.dropWhile isBar by unfold dw; rw [HN.out, List.take_length])
      go_wp2_with fail
      go_ret
      have h := HOW.out
      rw [HD.out] at h
      obtain ⟨ao', cap', hv, q1, q2, q3, q4, q5⟩ := own_ents (by have := HM.out; rwa [HD.out] at this) h
      have hm := HM.out
      rw [HD.out] at hm
      subst hm
      exact ⟨ao', cap', congrArg Ending.returned hv, q1, q2, q3, q4, q5, HBE.out⟩

set_option maxHeartbeats 1000000 in
theorem same_ok (a b : Option Addr) (c d : Nat) (l : List Ent) (n : Nat) (w : World) (hn : n = l.length) (hn1 : n ≤ 100) (ha : Ents w a l) (hb : Ents w b l) :
    Calls Tryd.prog 17 #[.slice a n c, .slice b n d] w fun ε w' => ε = .returned (.bool true) ∧ Below w.heap.size w w' := by
  have HN := Lib.hid hn; have HA := Lib.hid ha; have HB := Lib.hid hb
  clear hn ha hb
  go_enter Tryd.func17, Tryd.ntmps17
  go_wp2_with fail
  go_loopw [5] (fun i wr => ∃ k : Nat, k ≤ n ∧ i = .int .i64 k ∧ Ents wr a l ∧ Ents wr b l ∧ Below w.heap.size w wr) (fun i _ => n - (intOf i).toNat)
  case atStart => exact ⟨0, by omega, rfl, HA.out, HB.out, Below.refl _ _⟩
  case round =>
    obtain ⟨k, hkn, rfl, ha, hb, hbe⟩ := hrel
    have HA2 := Lib.hid ha; have HB2 := Lib.hid hb; have HBE := Lib.hid hbe
    clear ha hb hbe
    by_cases hk : k < n
    · obtain ⟨b1, o1, rfl, x⟩ := HA2.out k (by have := HN.out; omega)
      obtain ⟨b2, o2, rfl, y⟩ := HB2.out k (by have := HN.out; omega)
      obtain ⟨x0, x1, x2, x3, x4⟩ := x
      obtain ⟨y0, y1, y2, y3, y4⟩ := y
      have heq := eqE_self (nt l k)
      go_wp2_with fail
      go_quiet (fail)
      go_wp2_with fail
      go_roundw
      case rel => exact ⟨k + 1, by omega, by go_num, HA2.out.drewN _, HB2.out.drewN _, below_drewN HBE.out _⟩
      case measure => simp [intOf]; omega
    · go_wp2_with fail
      go_ret
      exact ⟨rfl, HBE.out⟩
end Go.Proofs.YtdmcmpbappjdoaaDoor
