/- Layer 9: Push. -/
import Derived.Test.YtdmcmpbappjdoaaDoorD7
namespace Go.Proofs.YtdmcmpbappjdoaaDoor
open Go.ChangeShapes Go.WideShapes Go.ChangeAt Go.RowKit
set_option linter.unusedVariables false

def pushR (l : List Ent) (e : Ent) : List Ent × Int := if (checkB l && mayB e) = false then ([], 2) else if l.length = 8 then ([], 20) else if isBar e = true ∧ l.length = 0 then ([], 0) else (l ++ [e], 0)
def PushPost (w : World) (r : List Ent × Int) (ε : Ending) (w' : World) : Prop := ∃ ao cap, ε = .returned (.tuple #[.slice ao r.1.length cap, .int .i64 r.2]) ∧ r.1.length ≤ cap ∧ cap ≤ 9223372036854775807 ∧ (ao = none → cap = 0) ∧ Ents w' ao r.1 ∧ Below w.heap.size w w'
theorem ents_one {w : World} {g : Nat} {e : Ent} (h : w.heap[g]? = some (.cells (rowE e) 31 (0, 0))) : Ents w (some ⟨g, 0, none⟩) [e] := fun i hi => by
  obtain rfl : i = 0 := by simp at hi; omega
  obtain ⟨q0, q1, q2, q3, q4⟩ := blk5 h
  exact ⟨g, 0, rfl, ⟨q0, q1, q2, q3, q4⟩⟩

set_option maxHeartbeats 1000000 in
theorem push_ok (ao : Option Addr) (cap : Nat) (l : List Ent) (n : Nat) (e : Ent) (w : World) (hn : n = l.length) (hcap : n ≤ cap) (hcap2 : cap ≤ 9223372036854775807) (hz : ao = none → cap = 0) (hk : TK w) (he : Ents w ao l) (ho : Oks l) (hoe : e.ok) :
    Calls Tryd.prog 13 #[.slice ao n cap, e.agg] w (PushPost w (pushR l e)) := by
  have HN := Lib.hid hn; have HK := Lib.hid hk; have HE := Lib.hid he; have HO := Lib.hid ho; have HOE := Lib.hid hoe; have HZ := Lib.hid hz
  clear hk he ho hn hoe hz
  have BB := Lib.hid ((Below.refl w.heap.size w).alloc (Nat.le_refl _) (.cells (rowE e) 31 (0, 0)))
  have HG0 := Lib.hid (show (w.alloc (.cells (rowE e) 31 (0, 0))).heap[w.heap.size]? = some (.cells (rowE e) 31 (0, 0)) from heap_alloc_new _ _)
  go_enter Tryd.func13, Tryd.ntmps13
  go_wp2_with fail
  refine (check_ok ao cap l n _ HN.out (by omega) (HK.out.below BB.out) (HE.out.below BB.out) HO.out).mono ?_
  rintro ε w1 ⟨rfl, hb1⟩
  have B1 := Lib.hid (BB.out.trans (show Below w.heap.size (w.alloc (.cells (rowE e) 31 (0, 0))) w1 from hb1.mono (by simp)))
  have hz1 : w.heap.size + 1 ≤ w1.heap.size := by have := hb1.size; simp at this; omega
  have HG1 := Lib.hid (show w1.heap[w.heap.size]? = some (.cells (rowE e) 31 (0, 0)) from (hb1.block w.heap.size (by simp)).trans HG0.out)
  clear hb1
  cases hch : checkB l
  · have HR := Lib.hid (show pushR l e = ([], 2) by simp [pushR, hch])
    have hcc : (cc false != 0) = true := rfl
    clear hch
    go_wp2_with fail
    go_ret2
    rw [HR.out]
    exact ⟨none, 0, rfl, by simp, by omega, (fun _ => rfl), Ents.none_, B1.out⟩
  · have hcc : (cc true != 0) = false := rfl
    have HCH := Lib.hid hch
    clear hch
    obtain ⟨q0, q1, q2, q3, q4⟩ := blk5 HG1.out
    go_wp2_with fail
    refine (may_ok e _ (HK.out.below B1.out) HOE.out).mono ?_
    rintro ε w2 ⟨rfl, hb2⟩
    have B2 := Lib.hid (B1.out.trans (hb2.mono (by omega)))
    have hz2 : w.heap.size + 1 ≤ w2.heap.size := by have := hb2.size; omega
    have HG2 := Lib.hid (show w2.heap[w.heap.size]? = some (.cells (rowE e) 31 (0, 0)) from (hb2.block w.heap.size (by omega)).trans HG1.out)
    clear hb2 q0 q1 q2 q3 q4
    cases hm : mayB e
    · have HR := Lib.hid (show pushR l e = ([], 2) by simp [pushR, hm])
      go_wp2_with fail
      go_ret2
      rw [HR.out]
      exact ⟨none, 0, rfl, by simp, by omega, (fun _ => rfl), Ents.none_, B2.out⟩
    · have HM := Lib.hid hm
      clear hm
      by_cases h8 : n = 8
      · have HR := Lib.hid (show pushR l e = ([], 20) by
          have : l.length = 8 := by have := HN.out; omega
          simp [pushR, HCH.out, HM.out, this])
        subst h8
        go_wp2_with fail
        go_ret2
        rw [HR.out]
        exact ⟨none, 0, rfl, by simp, by omega, (fun _ => rfl), Ents.none_, B2.out⟩
      · have hl8 : l.length ≠ 8 := by have := HN.out; omega
        have hn8 : n ≤ 8 := by have h := HCH.out; simp [checkB] at h; have := HN.out; omega
        have h8' : ((n : Int) == 8) = false := by simp; omega
        have h8'' : (n == 8) = false := by simpa using h8
        obtain ⟨q0, q1, q2, q3, q4⟩ := blk5 HG2.out
        by_cases hbz : (e.k == 1) = true ∧ n = 0
        · obtain ⟨hb, rfl⟩ := hbz
          have HR := Lib.hid (show pushR l e = ([], 0) by
            have h1 : l.length = 0 := HN.out.symm
            have h2 : isBar e = true := hb
            simp [pushR, HCH.out, HM.out, h1, h2])
          clear h8 hl8
          go_wp2_with fail
          go_ret2
          rw [HR.out]
          exact ⟨none, 0, rfl, by simp, by omega, (fun _ => rfl), Ents.none_, B2.out⟩
        · have HR := Lib.hid (show pushR l e = (l ++ [e], 0) by
            have h3 : ¬ (isBar e = true ∧ l.length = 0) := fun h => hbz ⟨h.1, by have := HN.out; omega⟩
            unfold pushR
            rw [if_neg (by simp [HCH.out, HM.out]), if_neg hl8, if_neg h3])
          have hrest : ∀ hh : True, True := fun h => h
          have hp : (e.k == 1) = false ∨ ((e.k == 1) = true ∧ ((n : Int) == 0) = false ∧ (n == 0) = false) := by
            cases hb : (e.k == 1)
            · exact .inl rfl
            · have : n ≠ 0 := fun h => hbz ⟨hb, h⟩
              exact .inr ⟨rfl, by simp; omega, by simpa using this⟩
          clear h8 hl8 hbz hrest
          rcases hp with hb | ⟨hb, hn0, hn0'⟩
          all_goals
            go_wp2_with fail
            have B3 := Lib.hid ((B2.out.alloc (by omega) (.cells (rowE e) 31 (0, 0))).alloc (by simp; omega) (.cells #[.slice ao n cap, .slice (some ⟨w2.heap.size, 0, none⟩) 1 1] 22 (0, 0)))
            have HG3 := Lib.hid (show ((w2.alloc (.cells (rowE e) 31 (0, 0))).alloc (.cells #[.slice ao n cap, .slice (some ⟨w2.heap.size, 0, none⟩) 1 1] 22 (0, 0))).heap[w2.heap.size]? = some (.cells (rowE e) 31 (0, 0)) from heap_alloc2_old _ _ _)
            refine (gather_ok (w2.heap.size + 1) ao (some ⟨w2.heap.size, 0, none⟩) n cap 1 1 l [e] _ HN.out rfl (by omega) (by omega) HZ.out (fun h => by cases h) (by simp [go_sem]) (by simp [go_sem]) (HE.out.below B3.out) (ents_one HG3.out)).mono ?_
            intro ε w3 hp
            obtain ⟨ao3, cap3, rfl, g1, g2, g3, g4, hE3, hb3⟩ := hp
            obtain ⟨n3, hn3⟩ : ∃ n3, (l ++ [e]).length = n3 := ⟨_, rfl⟩
            rw [hn3]
            have HN3 := Lib.hid hn3
            have G1 := Lib.hid g1; have G2 := Lib.hid g2; have G3 := Lib.hid g3; have HE3 := Lib.hid hE3
            have B4 := Lib.hid (B3.out.trans (hb3.mono (by simp; omega)))
            clear hn3 g1 g2 g3 g4 hE3 hb3
            go_wp2_with fail
            go_ret2
            rw [HR.out]
            exact ⟨ao3, cap3, by rw [HN3.out]; rfl, G1.out, G2.out, G3.out, HE3.out, B4.out⟩
end Go.Proofs.YtdmcmpbappjdoaaDoor
