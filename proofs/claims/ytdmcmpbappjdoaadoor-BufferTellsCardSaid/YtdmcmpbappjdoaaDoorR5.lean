/- Layer 9: the document's Push, Take. -/
import Derived.Test.YtdmcmpbappjdoaaDoorR3
import Derived.Test.YtdmcmpbappjdoaaDoorR4
import Derived.Test.YtdmcmpbappjdoaaDoorD8
namespace Go.Proofs.YtdmcmpbappjdoaaDoor
open Go.ChangeShapes Go.WideShapes Go.ChangeAt Go.RowKit
set_option linter.unusedVariables false

theorem dw_keep {l : List Ent} (h : headBar l = false) : l.dropWhile isBar = l := by
  cases l with
  | nil => rfl
  | cons a r =>
    have h' : isBar a = false := h
    rw [List.dropWhile_cons, if_neg (by rw [h']; simp)]
theorem check_head {l : List Ent} (h : checkB l = true) : headBar l = false := by
  simp only [checkB, Bool.and_eq_true] at h
  simpa using h.1.2
theorem push_plain {l : List Ent} {e : Ent} (hc : checkB l = true) (hm : mayB e = true) (h8 : l.length ≠ 8) : (l ++ [e]).dropWhile isBar = (pushR l e).1 ∧ (pushR l e).2 = 0 := by
  unfold pushR
  rw [if_neg (by simp [hc, hm]), if_neg h8]
  have hh := check_head hc
  cases l with
  | nil =>
    cases hb : isBar e
    · rw [if_neg (by simp)]
      exact ⟨by simp [hb], rfl⟩
    · rw [if_pos ⟨rfl, rfl⟩]
      exact ⟨by simp [hb], rfl⟩
  | cons a r =>
    rw [if_neg (by simp)]
    exact ⟨dw_keep (l := a :: r ++ [e]) hh, rfl⟩
theorem take_plain {l : List Ent} {K : Nat} (hc : checkB l = true) : (l.take K ++ l.drop (K + 1)).dropWhile isBar = takeL l K := by
  have hh := check_head hc
  unfold takeL
  cases K with
  | zero => rw [if_pos rfl]; rfl
  | succ K =>
    rw [if_neg (by omega)]
    cases l with
    | nil => rfl
    | cons a r => exact dw_keep (l := a :: (r.take K ++ r.drop (K + 1))) hh

set_option maxHeartbeats 1000000 in
theorem rpush_ok (ao : Option Addr) (cap : Nat) (l : List Ent) (n : Nat) (e : Ent) (w : World) (hn : n = l.length) (hcap : n ≤ cap) (hcap2 : cap ≤ 9223372036854775807) (hz : ao = none → cap = 0) (he : Ents w ao l) (ho : Oks l) (hoe : e.ok) :
    Calls Tryd.prog 14 #[.slice ao n cap, e.agg] w (PushPost w (pushR l e)) := by
  have HN := Lib.hid hn; have HE := Lib.hid he; have HO := Lib.hid ho; have HOE := Lib.hid hoe; have HZ := Lib.hid hz
  clear he ho hn hoe hz
  have BB := Lib.hid ((Below.refl w.heap.size w).alloc (Nat.le_refl _) (.cells (rowE e) 31 (0, 0)))
  have HG0 := Lib.hid (show (w.alloc (.cells (rowE e) 31 (0, 0))).heap[w.heap.size]? = some (.cells (rowE e) 31 (0, 0)) from heap_alloc_new _ _)
  go_enter Tryd.func14, Tryd.ntmps14
  go_wp2_with fail
  refine (rcheck_ok ao cap l n _ HN.out (by omega) (HE.out.below BB.out) HO.out).mono ?_
  rintro ε w1 ⟨rfl, hb1⟩
  have B1 := Lib.hid (BB.out.trans (show Below w.heap.size (w.alloc (.cells (rowE e) 31 (0, 0))) w1 from hb1.mono (by simp)))
  have hz1 : w.heap.size + 1 ≤ w1.heap.size := by have := hb1.size; simp at this; omega
  have HG1 := Lib.hid (show w1.heap[w.heap.size]? = some (.cells (rowE e) 31 (0, 0)) from (hb1.block w.heap.size (by simp)).trans HG0.out)
  clear hb1
  cases hch : checkB l
  · have HR := Lib.hid (show pushR l e = ([], 2) by simp [pushR, hch])
    have hcc : (cc false != 0) = true := rfl
    clear hch
    go_wp2_with fail
    go_ret2
    rw [HR.out]
    exact ⟨none, 0, rfl, by simp, by omega, (fun _ => rfl), Ents.none_, B1.out⟩
  · have hcc : (cc true != 0) = false := rfl
    have HCH := Lib.hid hch
    clear hch
    obtain ⟨q0, q1, q2, q3, q4⟩ := blk5 HG1.out
    go_wp2_with fail
    refine (rmay_ok e _ HOE.out).mono ?_
    rintro ε w2 ⟨rfl, hb2⟩
    have B2 := Lib.hid (B1.out.trans (hb2.mono (by omega)))
    have hz2 : w.heap.size + 1 ≤ w2.heap.size := by have := hb2.size; omega
    have HG2 := Lib.hid (show w2.heap[w.heap.size]? = some (.cells (rowE e) 31 (0, 0)) from (hb2.block w.heap.size (by omega)).trans HG1.out)
    clear hb2 q0 q1 q2 q3 q4
    cases hm : mayB e
    · have HR := Lib.hid (show pushR l e = ([], 2) by simp [pushR, hm])
      go_wp2_with fail
      go_ret2
      rw [HR.out]
      exact ⟨none, 0, rfl, by simp, by omega, (fun _ => rfl), Ents.none_, B2.out⟩
    · have HM := Lib.hid hm
      clear hm
      have hn8 : n ≤ 8 := by have h := HCH.out; simp [checkB] at h; have := HN.out; omega
      by_cases h8 : n = 8
      · have HR := Lib.hid (show pushR l e = ([], 20) by
          have : l.length = 8 := by have := HN.out; omega
          simp [pushR, HCH.out, HM.out, this])
        subst h8
        go_wp2_with fail
        go_ret2
        rw [HR.out]
        exact ⟨none, 0, rfl, by simp, by omega, (fun _ => rfl), Ents.none_, B2.out⟩
      · have hl8 : l.length ≠ 8 := by have := HN.out; omega
        have h8' : decide (8 ≤ (n : Int)) = false := by simp; omega
        have h8'' : decide (8 ≤ n) = false := by simp; omega
        have HR := Lib.hid (push_plain HCH.out HM.out hl8)
        go_wp2_with (at_builtin; refine append_ents rfl _ _ rfl w2.heap.size (.slice none 0 0) 0 [] rfl ⟨rfl, .inl ⟨rfl, rfl⟩⟩ ao n cap l rfl HZ.out HN.out (HE.out.below B2.out) (by omega) (Nat.le_refl _) ?_)
        intro v1 w3 hown3 hgr3
        try simp only [Nat.zero_add, List.nil_append] at hown3
        have HOW3 := Lib.hid hown3
        have B23 := Lib.hid ((Below.refl w2.heap.size w2).grown hgr3 (Nat.le_refl _) (fun q hq => by simp [Value.ownBlock] at hq))
        have B3 := Lib.hid (B2.out.trans (B23.out.mono (by omega)))
        have hz3 : w2.heap.size ≤ w3.heap.size := B23.out.size
        have HG3 := Lib.hid (show w3.heap[w.heap.size]? = some (.cells (rowE e) 31 (0, 0)) from (B23.out.block w.heap.size (by omega)).trans HG2.out)
        clear hown3 hgr3
        obtain ⟨q0, q1, q2, q3, q4⟩ := blk5 HG3.out
        go_wp2_with (at_builtin; refine append_ents rfl _ _ rfl w2.heap.size v1 n _ rfl (HOW3.out.alloc _) (some ⟨w3.heap.size, 0, none⟩) 1 1 [e] rfl (fun h => nomatch h) rfl (ents_one (heap_alloc_new w3 (.cells (rowE e) 31 (0, 0)))) (by omega) (by simp; omega) ?_)
        intro v2 w4 hown4 hgr4
        have HOW4 := Lib.hid hown4
        have B4 := Lib.hid ((B3.out.alloc (by omega) _).grown hgr4 (by simp; omega) (fun q hq => by have := (HOW3.out.lt q hq).1; omega))
        clear hown4 hgr4 q0 q1 q2 q3 q4
        obtain ⟨a4, c4, rfl, _, _, _, _, hE4⟩ := own_ents (l := l ++ [e]) (by rw [List.length_append, ← HN.out, List.length_singleton]) (by rw [cellsE_app]; exact HOW4.out)
        have HE4 := Lib.hid hE4
        clear hE4
        go_wp2_with fail
        refine (first_ok a4 c4 (l ++ [e]) (n + 1) _ (by rw [List.length_append, ← HN.out, List.length_singleton]) (by omega) HE4.out).mono ?_
        intro ε w5 hp
        rw [HR.out.1] at hp
        obtain ⟨ao5, cap5, rfl, g1, g2, g3, g4, hE5, hb5⟩ := hp
        obtain ⟨n5, hn5⟩ : ∃ n5, (pushR l e).1.length = n5 := ⟨_, rfl⟩
        rw [hn5]
        have HN5 := Lib.hid hn5
        have G1 := Lib.hid g1; have G2 := Lib.hid g2; have G3 := Lib.hid g3; have HE5 := Lib.hid hE5
        have B5 := Lib.hid (B4.out.trans (hb5.mono B4.out.size))
        clear hn5 g1 g2 g3 g4 hE5 hb5
        go_wp2_with fail
        go_ret2
        exact ⟨ao5, cap5, by rw [HN5.out, HR.out.2]; rfl, G1.out, G2.out, G3.out, HE5.out, B5.out⟩
set_option maxHeartbeats 1000000 in
theorem rtake_no (ao : Option Addr) (cap : Nat) (l : List Ent) (n : Nat) (k : Int) (w : World) (hn : n = l.length) (hcap : n ≤ cap) (hcap2 : cap ≤ 9223372036854775807) (he : Ents w ao l) (ho : Oks l) (c : Int) (hc : takeC l k = c) (hc0 : c ≠ 0) :
    Calls Tryd.prog 15 #[.slice ao n cap, .int .i64 k] w (TakeNo w c) := by
  have HN := Lib.hid hn; have HE := Lib.hid he; have HO := Lib.hid ho; have HC := Lib.hid hc; have HC0 := Lib.hid hc0
  clear he ho hn hc hc0
  have BB := Lib.hid ((Below.refl w.heap.size w).alloc (Nat.le_refl _) (.cells (rowE e0) 31 (0, 0)))
  have HG0 := Lib.hid (show (w.alloc (.cells (rowE e0) 31 (0, 0))).heap[w.heap.size]? = some (.cells (rowE e0) 31 (0, 0)) from heap_alloc_new _ _)
  go_enter Tryd.func15, Tryd.ntmps15
  go_wp2_with fail
  refine (rcheck_ok ao cap l n _ HN.out (by omega) (HE.out.below BB.out) HO.out).mono ?_
  rintro ε w1 ⟨rfl, hb1⟩
  have B1 := Lib.hid (BB.out.trans (show Below w.heap.size (w.alloc (.cells (rowE e0) 31 (0, 0))) w1 from hb1.mono (by simp)))
  have hz1 : w.heap.size + 1 ≤ w1.heap.size := by have := hb1.size; simp at this; omega
  have HG1 := Lib.hid (show w1.heap[w.heap.size]? = some (.cells (rowE e0) 31 (0, 0)) from (hb1.block w.heap.size (by simp)).trans HG0.out)
  clear hb1
  cases hch : checkB l
  · have HE2 := Lib.hid (show c = 2 by rw [← HC.out]; simp [takeC, hch])
    have hcc : (cc false != 0) = true := rfl
    clear hch
    go_wp2_with (refine wpList_store_row rfl 31 (.tmp 5) (.tmp 11) rfl w.heap.size (rowE e0) rfl rfl 31 _ HG1.out (by kernel_rfl) rfl (rowE_one e0) ?_)
    obtain ⟨q0, q1, q2, q3, q4⟩ := blk5 (setRow_heap w1 w.heap.size _ (rowE e0) 31 (0, 0) HG1.out)
    refine bodyPost_ret (v := .tuple #[.slice none 0 0, .agg #[.int .i8 e0.k, .int .u64 e0.wd, .int .u64 e0.v, .int .i64 e0.fr, .int .i64 e0.fm], .int .i64 2]) (by simp [results, Tryd.results15, go_sem, q0, q1, q2, q3, q4]) rfl ?_
    exact ⟨by rw [HE2.out]; rfl, row_below B1.out (Nat.le_refl _) _⟩
  · have hcc : (cc true != 0) = false := rfl
    have HCH := Lib.hid hch
    clear hch
    by_cases h0 : k < 0
    · have HE2 := Lib.hid (show c = 4 by rw [← HC.out]; simp [takeC, HCH.out, h0])
      go_wp2_with (refine wpList_store_row rfl 31 (.tmp 5) (.tmp 20) rfl w.heap.size (rowE e0) rfl rfl 31 _ HG1.out (by kernel_rfl) rfl (rowE_one e0) ?_)
      obtain ⟨q0, q1, q2, q3, q4⟩ := blk5 (setRow_heap w1 w.heap.size _ (rowE e0) 31 (0, 0) HG1.out)
      refine bodyPost_ret (v := .tuple #[.slice none 0 0, .agg #[.int .i8 e0.k, .int .u64 e0.wd, .int .u64 e0.v, .int .i64 e0.fr, .int .i64 e0.fm], .int .i64 4]) (by simp [results, Tryd.results15, go_sem, q0, q1, q2, q3, q4]) rfl ?_
      exact ⟨by rw [HE2.out]; rfl, row_below B1.out (Nat.le_refl _) _⟩
    · obtain ⟨K, rfl⟩ : ∃ K : Nat, k = K := ⟨k.toNat, by omega⟩
      by_cases h1 : K < n
      · obtain ⟨b, off, rfl, _⟩ := HE.out K (by have := HN.out; omega)
        have HF := Lib.hid (show freeB l K = false by
          cases hf : freeB l K
          · rfl
          · exfalso
            apply HC0.out
            rw [← HC.out]
            have h2 : ¬ (l.length ≤ K) := by have := HN.out; omega
            simp [takeC, HCH.out, hf, h2])
        have HE2 := Lib.hid (show c = 21 by
          rw [← HC.out]
          have h2 : ¬ (l.length ≤ K) := by have := HN.out; omega
          simp [takeC, HCH.out, HF.out, h2])
        go_wp2_with fail
        refine (rmayAt_ok (some ⟨b, off, none⟩) cap l n K _ HN.out (by omega) (HE.out.below B1.out) HO.out).mono ?_
        rw [show mayAt l K = false by simp [mayAt, HF.out]]
        rintro ε w2 ⟨rfl, hb2⟩
        have B2 := Lib.hid (B1.out.trans (hb2.mono (by omega)))
        have HG2 := Lib.hid (show w2.heap[w.heap.size]? = some (.cells (rowE e0) 31 (0, 0)) from (hb2.block w.heap.size (by omega)).trans HG1.out)
        clear hb2
        go_wp2_with (refine wpList_store_row rfl 31 (.tmp 5) (.tmp 25) rfl w.heap.size (rowE e0) rfl rfl 31 _ HG2.out (by kernel_rfl) rfl (rowE_one e0) ?_)
        obtain ⟨q0, q1, q2, q3, q4⟩ := blk5 (setRow_heap w2 w.heap.size _ (rowE e0) 31 (0, 0) HG2.out)
        refine bodyPost_ret (v := .tuple #[.slice none 0 0, .agg #[.int .i8 e0.k, .int .u64 e0.wd, .int .u64 e0.v, .int .i64 e0.fr, .int .i64 e0.fm], .int .i64 21]) (by simp [results, Tryd.results15, go_sem, q0, q1, q2, q3, q4]) rfl ?_
        exact ⟨by rw [HE2.out]; rfl, row_below B2.out (Nat.le_refl _) _⟩
      · have HE2 := Lib.hid (show c = 4 by
          rw [← HC.out]
          have h2 : l.length ≤ K := by have := HN.out; omega
          simp [takeC, HCH.out, h2])
        have h1' : decide (n ≤ K) = true := by simpa using h1
        go_wp2_with (refine wpList_store_row rfl 31 (.tmp 5) (.tmp 20) rfl w.heap.size (rowE e0) rfl rfl 31 _ HG1.out (by kernel_rfl) rfl (rowE_one e0) ?_)
        obtain ⟨q0, q1, q2, q3, q4⟩ := blk5 (setRow_heap w1 w.heap.size _ (rowE e0) 31 (0, 0) HG1.out)
        refine bodyPost_ret (v := .tuple #[.slice none 0 0, .agg #[.int .i8 e0.k, .int .u64 e0.wd, .int .u64 e0.v, .int .i64 e0.fr, .int .i64 e0.fm], .int .i64 4]) (by simp [results, Tryd.results15, go_sem, q0, q1, q2, q3, q4]) rfl ?_
        exact ⟨by rw [HE2.out]; rfl, row_below B1.out (Nat.le_refl _) _⟩


set_option maxHeartbeats 1000000 in
theorem rtake_yes (b off cap : Nat) (l : List Ent) (n K : Nat) (w : World) (hn : n = l.length) (hcap : n ≤ cap) (hcap2 : cap ≤ 9223372036854775807) (he : Ents w (some ⟨b, off, none⟩) l) (ho : Oks l) (hK : K < n) (hch : checkB l = true) (hf : freeB l K = true) :
    Calls Tryd.prog 15 #[.slice (some ⟨b, off, none⟩) n cap, .int .i64 K] w (TakeYes w l K) := by
  have HN := Lib.hid hn; have HE := Lib.hid he; have HO := Lib.hid ho; have HCH := Lib.hid hch; have HF := Lib.hid hf
  have hn8 : n ≤ 8 := by simp [checkB] at hch; omega
  clear he ho hn hch hf
  have HMA := Lib.hid (show mayAt l K = true by
    have h2 : K < l.length := by have := HN.out; omega
    simp [mayAt, HCH.out, HF.out, h2])
  have HTL := Lib.hid (show K = (l.take K).length by simp; have := HN.out; omega)
  have HDL := Lib.hid (show n - (K + 1) = (l.drop (K + 1)).length by simp; have := HN.out; omega)
  have HPL := Lib.hid (take_plain (K := K) HCH.out)
  have BB := Lib.hid ((Below.refl w.heap.size w).alloc (Nat.le_refl _) (.cells (rowE e0) 31 (0, 0)))
  have HG0 := Lib.hid (show (w.alloc (.cells (rowE e0) 31 (0, 0))).heap[w.heap.size]? = some (.cells (rowE e0) 31 (0, 0)) from heap_alloc_new _ _)
  go_enter Tryd.func15, Tryd.ntmps15
  go_wp2_with fail
  refine (rcheck_ok (some ⟨b, off, none⟩) cap l n _ HN.out (by omega) (HE.out.below BB.out) HO.out).mono ?_
  rw [HCH.out]
  rintro ε w1 ⟨rfl, hb1⟩
  have B1 := Lib.hid (BB.out.trans (show Below w.heap.size (w.alloc (.cells (rowE e0) 31 (0, 0))) w1 from hb1.mono (by simp)))
  have hz1 : w.heap.size + 1 ≤ w1.heap.size := by have := hb1.size; simp at this; omega
  have HG1 := Lib.hid (show w1.heap[w.heap.size]? = some (.cells (rowE e0) 31 (0, 0)) from (hb1.block w.heap.size (by simp)).trans HG0.out)
  clear hb1
  have hcc : (cc true != 0) = false := rfl
  have hK0 : decide ((K : Int) < 0) = false := by simp
  go_wp2_with fail
  refine (rmayAt_ok (some ⟨b, off, none⟩) cap l n K _ HN.out (by omega) (HE.out.below B1.out) HO.out).mono ?_
  rw [HMA.out]
  rintro ε w2 ⟨rfl, hb2⟩
  have B2 := Lib.hid (B1.out.trans (hb2.mono (by omega)))
  have HG2 := Lib.hid (show w2.heap[w.heap.size]? = some (.cells (rowE e0) 31 (0, 0)) from (hb2.block w.heap.size (by omega)).trans HG1.out)
  have hz2 : w.heap.size + 1 ≤ w2.heap.size := by have := hb2.size; omega
  clear hb2
  go_wp2_with (at_builtin; refine append_ents rfl _ _ rfl w2.heap.size (.slice none 0 0) 0 [] rfl ⟨rfl, .inl ⟨rfl, rfl⟩⟩ (some ⟨b, off, none⟩) K cap (l.take K) rfl (fun h => nomatch h) HTL.out (Ents.take (HE.out.below B2.out) K) (by omega) (Nat.le_refl _) ?_)
  intro v1 w3 hown3 hgr3
  try simp only [Nat.zero_add, List.nil_append] at hown3
  have HOW3 := Lib.hid hown3
  have B23 := Lib.hid ((Below.refl w2.heap.size w2).grown hgr3 (Nat.le_refl _) (fun q hq => by simp [Value.ownBlock] at hq))
  have B3 := Lib.hid (B2.out.trans (B23.out.mono (by omega)))
  have hz3 : w2.heap.size ≤ w3.heap.size := B23.out.size
  have HG3 := Lib.hid (show w3.heap[w.heap.size]? = some (.cells (rowE e0) 31 (0, 0)) from (B23.out.block w.heap.size (by omega)).trans HG2.out)
  clear hown3 hgr3
  by_cases hcp : K + 1 = cap
  · have hnc : n = K + 1 := by omega
    have hKc : K < cap := by omega
    have HDN := Lib.hid (show l.drop (K + 1) = [] from List.drop_of_length_le (by have := HN.out; omega))
    go_wp2_with (at_builtin; refine append_ents rfl _ _ rfl w2.heap.size v1 K _ rfl HOW3.out (some ⟨b, off, none⟩) 0 0 (l.drop (K + 1)) rfl (fun h => nomatch h) (by rw [HDN.out]; rfl) (by rw [HDN.out]; exact Ents.none_) (by omega) (by omega) ?_)
    intro v2 w4 hown4 hgr4
    obtain ⟨N4, hN4⟩ : ∃ N4, K + 0 = N4 := ⟨_, rfl⟩
    replace hown4 : w4.ownsRow w2.heap.size 31 5 v2 N4 (cellsE (l.take K ++ l.drop (K + 1))) := by rw [← hN4, cellsE_app, hcp]; exact hown4
    have HN4 := Lib.hid (show N4 = (l.take K ++ l.drop (K + 1)).length by rw [List.length_append, ← HTL.out, HDN.out, ← hN4]; rfl)
    have hN100 : N4 ≤ 100 := by omega
    have B34 := Lib.hid ((Below.refl w2.heap.size w3).grown hgr4 hz3 (fun q hq => (HOW3.out.lt q hq).1))
    have B4 := Lib.hid (B3.out.trans (B34.out.mono (by omega)))
    have HG4 := Lib.hid (show w4.heap[w.heap.size]? = some (.cells (rowE e0) 31 (0, 0)) from (B34.out.block w.heap.size (by omega)).trans HG3.out)
    have hz4 : w.heap.size < w4.heap.size := by have := B34.out.size; omega
    obtain ⟨a4, c4, rfl, _, _, _, _, hE4⟩ := own_ents HN4.out hown4
    have HE4 := Lib.hid hE4
    clear hE4 hown4 hgr4 hN4
    obtain ⟨b', off', e', xK⟩ := HE.out K (by have := HN.out; omega)
    cases e'
    have HEK := Lib.hid (xK.below B4.out)
    obtain ⟨x0, x1, x2, x3, x4⟩ := xK.below B4.out
    have hbw : b < w.heap.size := xK.lt
    have hbn : ¬ b = w.heap.size := by omega
    have hbn' : ¬ w.heap.size = b := by omega
    clear xK
    go_wp2_with fail
    go_region_held3 (fun wv => wv.cell? ⟨b, off + K * 5, none⟩ = some (.int .i8 (nt l K).k) ∧ wv.cell? ⟨b, off + K * 5 + 1, none⟩ = some (.int .u64 (nt l K).wd) ∧ wv.cell? ⟨b, off + K * 5 + 2, none⟩ = some (.int .u64 (nt l K).v) ∧ wv.cell? ⟨b, off + K * 5 + 3, none⟩ = some (.int .i64 (nt l K).fr) ∧ wv.cell? ⟨b, off + K * 5 + 4, none⟩ = some (.int .i64 (nt l K).fm)) (go_keep)
      (first | (go_at_call 27; refine (first_ok a4 c4 (l.take K ++ l.drop (K + 1)) N4 _ HN4.out hN100 (HE4.out.drewN 1)).mono ?_; intro ε w5 hp; rw [HPL.out] at hp; obtain ⟨ao5, cap5, rfl, g1, g2, g3, g4, hE5, hb5⟩ := hp; obtain ⟨n5, hn5⟩ : ∃ n5, (takeL l K).length = n5 := ⟨_, rfl⟩; rw [hn5]; have HN5 := Lib.hid hn5; clear hn5; have BW := Lib.hid (below_of_drew (B := w4.heap.size) hb5 (Nat.le_refl _)); have G1 := Lib.hid g1; have G2 := Lib.hid g2; have G3 := Lib.hid g3; have G4 := Lib.hid (show ∀ ad, ao5 = some ad → w4.heap.size ≤ ad.block from g4); have HE5 := Lib.hid hE5; clear g1 g2 g3 g4 hE5 hb5; obtain ⟨y0, y1, y2, y3, y4⟩ := HEK.out.below BW.out; obtain ⟨q0, q1, q2, q3, q4⟩ := blk5 ((BW.out.block w.heap.size hz4).trans HG4.out); obtain ⟨f0, f1, f2, f3, f4⟩ := blk5f ((BW.out.block w.heap.size hz4).trans HG4.out)))
    all_goals
      go_wp2_with fail
      refine bodyPost_ret (v := .tuple #[.slice ao5 n5 cap5, .agg #[.int .i8 (nt l K).k, .int .u64 (nt l K).wd, .int .u64 (nt l K).v, .int .i64 (nt l K).fr, .int .i64 (nt l K).fm], .int .i64 0]) (by simp [results, Tryd.results15, go_sem, q0, q1, q2, q3, q4]) rfl ?_
      exact ⟨ao5, cap5, by rw [HN5.out], G1.out, G2.out, G3.out, Ents.off (w' := set5 w5 w.heap.size (nt l K)) HE5.out (fun b o h => set5_other w5 w.heap.size _ b o h) (fun ad h => by have := G4.out ad h; omega), set5_below (e := nt l K) (B4.out.trans (BW.out.mono (by omega))) (Nat.le_refl _)⟩
  · have hnc : K + 1 < cap := by omega
    go_wp2_with (at_builtin; refine append_ents rfl _ _ rfl w2.heap.size v1 K _ rfl HOW3.out (some ⟨b, off + (K + 1) * 5, none⟩) (n - (K + 1)) (cap - (K + 1)) (l.drop (K + 1)) rfl (fun h => nomatch h) HDL.out ((HE.out.below B3.out).drop (K + 1)) (by omega) (by omega) ?_)
    intro v2 w4 hown4 hgr4
    obtain ⟨N4, hN4⟩ : ∃ N4, K + (n - (K + 1)) = N4 := ⟨_, rfl⟩
    rw [hN4, ← cellsE_app] at hown4
    have HN4 := Lib.hid (show N4 = (l.take K ++ l.drop (K + 1)).length by rw [List.length_append, ← HTL.out, ← HDL.out, hN4])
    have hN100 : N4 ≤ 100 := by omega
    have B34 := Lib.hid ((Below.refl w2.heap.size w3).grown hgr4 hz3 (fun q hq => (HOW3.out.lt q hq).1))
    have B4 := Lib.hid (B3.out.trans (B34.out.mono (by omega)))
    have HG4 := Lib.hid (show w4.heap[w.heap.size]? = some (.cells (rowE e0) 31 (0, 0)) from (B34.out.block w.heap.size (by omega)).trans HG3.out)
    have hz4 : w.heap.size < w4.heap.size := by have := B34.out.size; omega
    obtain ⟨a4, c4, rfl, _, _, _, _, hE4⟩ := own_ents HN4.out hown4
    have HE4 := Lib.hid hE4
    clear hE4 hown4 hgr4 hN4
    obtain ⟨b', off', e', xK⟩ := HE.out K (by have := HN.out; omega)
    cases e'
    have HEK := Lib.hid (xK.below B4.out)
    obtain ⟨x0, x1, x2, x3, x4⟩ := xK.below B4.out
    have hbw : b < w.heap.size := xK.lt
    have hbn : ¬ b = w.heap.size := by omega
    have hbn' : ¬ w.heap.size = b := by omega
    clear xK
    go_wp2_with fail
    go_region_held3 (fun wv => wv.cell? ⟨b, off + K * 5, none⟩ = some (.int .i8 (nt l K).k) ∧ wv.cell? ⟨b, off + K * 5 + 1, none⟩ = some (.int .u64 (nt l K).wd) ∧ wv.cell? ⟨b, off + K * 5 + 2, none⟩ = some (.int .u64 (nt l K).v) ∧ wv.cell? ⟨b, off + K * 5 + 3, none⟩ = some (.int .i64 (nt l K).fr) ∧ wv.cell? ⟨b, off + K * 5 + 4, none⟩ = some (.int .i64 (nt l K).fm)) (go_keep)
      (first | (go_at_call 27; refine (first_ok a4 c4 (l.take K ++ l.drop (K + 1)) N4 _ HN4.out hN100 (HE4.out.drewN 1)).mono ?_; intro ε w5 hp; rw [HPL.out] at hp; obtain ⟨ao5, cap5, rfl, g1, g2, g3, g4, hE5, hb5⟩ := hp; obtain ⟨n5, hn5⟩ : ∃ n5, (takeL l K).length = n5 := ⟨_, rfl⟩; rw [hn5]; have HN5 := Lib.hid hn5; clear hn5; have BW := Lib.hid (below_of_drew (B := w4.heap.size) hb5 (Nat.le_refl _)); have G1 := Lib.hid g1; have G2 := Lib.hid g2; have G3 := Lib.hid g3; have G4 := Lib.hid (show ∀ ad, ao5 = some ad → w4.heap.size ≤ ad.block from g4); have HE5 := Lib.hid hE5; clear g1 g2 g3 g4 hE5 hb5; obtain ⟨y0, y1, y2, y3, y4⟩ := HEK.out.below BW.out; obtain ⟨q0, q1, q2, q3, q4⟩ := blk5 ((BW.out.block w.heap.size hz4).trans HG4.out); obtain ⟨f0, f1, f2, f3, f4⟩ := blk5f ((BW.out.block w.heap.size hz4).trans HG4.out)))
    all_goals
      go_wp2_with fail
      refine bodyPost_ret (v := .tuple #[.slice ao5 n5 cap5, .agg #[.int .i8 (nt l K).k, .int .u64 (nt l K).wd, .int .u64 (nt l K).v, .int .i64 (nt l K).fr, .int .i64 (nt l K).fm], .int .i64 0]) (by simp [results, Tryd.results15, go_sem, q0, q1, q2, q3, q4]) rfl ?_
      exact ⟨ao5, cap5, by rw [HN5.out], G1.out, G2.out, G3.out, Ents.off (w' := set5 w5 w.heap.size (nt l K)) HE5.out (fun b o h => set5_other w5 w.heap.size _ b o h) (fun ad h => by have := G4.out ad h; omega), set5_below (e := nt l K) (B4.out.trans (BW.out.mono (by omega))) (Nat.le_refl _)⟩
end Go.Proofs.YtdmcmpbappjdoaaDoor
