/- Statement BufferTells of layer 9: the law returns true at every input, and every argument reads as before. The package variable kinds reads as its initialiser lays it (tied to the program's text). -/
import Derived.Test.YtdmcmpbappjdoaaDoorR5
import Derived.Test.YtdmcmpbappjdoaaDoorD9
import Derived.Test.YtdmcmpbappjdoaaDoorE1
import Derived.Test.YtdmcmpbappjdoaaDoorShape
import Derived.Test.YtdmcmpbappjdoaaDoorCards
import Derived.Test.YtdmcmpbappjdoaaDoorTie
namespace Go.Proofs.YtdmcmpbappjdoaaDoor
open Go.ChangeShapes Go.WideShapes Go.ChangeAt Go.RowKit
set_option linter.unusedVariables false
attribute [local go_sem ↓] ne_run

def takeM (l : List Ent) (k : Int) : List Ent × Ent × Int := if takeC l k = 0 then (takeL l k.toNat, nt l k.toNat, 0) else ([], e0, takeC l k)
def TakeP (w : World) (r : List Ent × Ent × Int) (ε : Ending) (w' : World) : Prop := ∃ ao cap, ε = .returned (.tuple #[.slice ao r.1.length cap, r.2.1.agg, .int .i64 r.2.2]) ∧ Ents w' ao r.1 ∧ Below w.heap.size w w'
theorem takeP_no {w : World} {l : List Ent} {k : Int} {ε : Ending} {w' : World} (hc : takeC l k ≠ 0) (h : TakeNo w (takeC l k) ε w') : TakeP w (takeM l k) ε w' := by
  unfold takeM
  rw [if_neg hc]
  exact ⟨none, 0, h.1, Ents.none_, h.2⟩
theorem takeP_yes {w : World} {l : List Ent} {K : Nat} {ε : Ending} {w' : World} (hc : takeC l K = 0) (h : TakeYes w l K ε w') : TakeP w (takeM l K) ε w' := by
  unfold takeM
  rw [if_pos hc]
  obtain ⟨ao, cap, h1, _, _, _, h2, h3⟩ := h
  exact ⟨ao, cap, h1, h2, h3⟩
theorem takeC_zero {l : List Ent} {k : Int} (h : takeC l k = 0) : checkB l = true ∧ ∃ K : Nat, k = K ∧ K < l.length ∧ freeB l K = true := by
  unfold takeC at h
  split at h
  · omega
  · rename_i h1
    split at h
    · omega
    · rename_i h2
      split at h
      · omega
      · rename_i h3
        exact ⟨by simpa using h1, k.toNat, by omega, by omega, by simpa using h3⟩
theorem take_all (ao : Option Addr) (cap : Nat) (l : List Ent) (n : Nat) (k : Int) (w : World) (hn : n = l.length) (hcap : n ≤ cap) (hcap2 : cap ≤ 9223372036854775807) (hk : TK w) (he : Ents w ao l) (ho : Oks l) :
    Calls Tryd.prog 11 #[.slice ao n cap, .int .i64 k] w (TakeP w (takeM l k)) := by
  by_cases hc : takeC l k = 0
  · obtain ⟨h1, K, rfl, h2, h3⟩ := takeC_zero hc
    obtain ⟨b, off, rfl, _⟩ := he K h2
    exact (take_yes b off cap l n K w hn hcap hcap2 hk he ho (by omega) h1 h3).mono fun _ _ h => takeP_yes hc h
  · exact (take_no ao cap l n k w hn hcap hcap2 hk he ho _ rfl hc).mono fun _ _ h => takeP_no hc h
theorem rtake_all (ao : Option Addr) (cap : Nat) (l : List Ent) (n : Nat) (k : Int) (w : World) (hn : n = l.length) (hcap : n ≤ cap) (hcap2 : cap ≤ 9223372036854775807) (he : Ents w ao l) (ho : Oks l) :
    Calls Tryd.prog 15 #[.slice ao n cap, .int .i64 k] w (TakeP w (takeM l k)) := by
  by_cases hc : takeC l k = 0
  · obtain ⟨h1, K, rfl, h2, h3⟩ := takeC_zero hc
    obtain ⟨b, off, rfl, _⟩ := he K h2
    exact (rtake_yes b off cap l n K w hn hcap hcap2 he ho (by omega) h1 h3).mono fun _ _ h => takeP_yes hc h
  · exact (rtake_no ao cap l n k w hn hcap hcap2 he ho _ rfl hc).mono fun _ _ h => takeP_no hc h
theorem takeM_len (l : List Ent) (k : Int) : (takeM l k).1.length ≤ l.length := by
  unfold takeM
  split
  · rename_i h
    obtain ⟨_, K, rfl, h2, _⟩ := takeC_zero h
    simp only [takeL, Int.toNat_natCast, List.length_append, List.length_take]
    split
    · have := (List.dropWhile_sublist isBar (l := l.drop 1)).length_le
      rw [List.length_drop] at this
      omega
    · rw [List.length_drop]; omega
  · simp
theorem pushR_len (l : List Ent) (e : Ent) : (pushR l e).1.length ≤ l.length + 1 := by
  unfold pushR
  split
  · simp
  · split
    · simp
    · split
      · simp
      · simp
theorem touch_sw (a b : Ent) (w : World) (hk : TK w) (ha : a.ok) (hb : b.ok) : Calls Tryd.prog 20 #[b.agg, a.agg] w fun ε w' => ε = .returned (.bool (touchB a b)) ∧ Below w.heap.size w w' := by
  have h := touch_ok b a w hk hb ha
  rw [touch_symm a b] at h
  exact h
theorem touch_any (a b : Ent) {x y : Ent} (w : World) (h : (x = a ∧ y = b) ∨ (x = b ∧ y = a)) (hk : TK w) (ha : a.ok) (hb : b.ok) : Calls Tryd.prog 20 #[.agg #[.int .i8 x.k, .int .u64 x.wd, .int .u64 x.v, .int .i64 x.fr, .int .i64 x.fm], .agg #[.int .i8 y.k, .int .u64 y.wd, .int .u64 y.v, .int .i64 y.fr, .int .i64 y.fm]] w fun ε w' => ε = .returned (.bool (touchB a b)) ∧ Below w.heap.size w w' := by
  rcases h with ⟨rfl, rfl⟩ | ⟨rfl, rfl⟩
  · exact touch_ok _ _ w hk ha hb
  · exact touch_sw _ _ w hk ha hb
theorem twoA {w : World} {a b : Ent} : ((w.alloc (.cells (rowE a) 31 (0, 0))).alloc (.cells (rowE b) 31 (0, 0))).heap[w.heap.size]? = some (.cells (rowE a) 31 (0, 0)) := heap_alloc2_old _ _ _
theorem twoB {w : World} {a b : Ent} : ((w.alloc (.cells (rowE a) 31 (0, 0))).alloc (.cells (rowE b) 31 (0, 0))).heap[w.heap.size + 1]? = some (.cells (rowE b) 31 (0, 0)) := by
  have h := heap_alloc_new (w.alloc (.cells (rowE a) 31 (0, 0))) (.cells (rowE b) 31 (0, 0))
  simpa using h
def put5 (w : World) (x : Ent) : World := (w.alloc (.cells (rowE e0) 31 (0, 0))).setRow w.heap.size (rowE x)
theorem put5_below (w : World) (x : Ent) : Below w.heap.size w (put5 w x) := row_below ((Below.refl w.heap.size w).alloc (Nat.le_refl _) _) (Nat.le_refl _) _
theorem put5_new (w : World) (x : Ent) : (put5 w x).heap[w.heap.size]? = some (.cells (rowE x) 31 (0, 0)) := setRow_heap _ _ _ _ 31 (0, 0) (heap_alloc_new _ _)
theorem put5_size (w : World) (x : Ent) : (put5 w x).heap.size = w.heap.size + 1 := by simp [put5]

set_option maxHeartbeats 4000000 in
set_option maxRecDepth 100000 in
theorem tells_walk (ao : Option Addr) (cap : Nat) (l : List Ent) (n : Nat) (a b : Ent) (k word : Int) (w : World) (hn : n = l.length) (hcap : n ≤ cap) (hcap2 : cap ≤ 9223372036854775807) (hz : ao = none → cap = 0) (hoa : a.ok) (hob : b.ok) (h0 : 0 ≤ word) (h1 : word ≤ 18446744073709551615) (hk : TK w) (he : Ents w ao l) (ho : Oks l) :
    Calls Tryd.prog 6 #[.slice ao n cap, a.agg, b.agg, .int .i64 k, .int .u64 word] w fun ε w' => ε = .returned (.bool true) ∧ Below w.heap.size w w' := by
  have HN := Lib.hid hn; have HK := Lib.hid hk; have HE := Lib.hid he; have HO := Lib.hid ho; have HZ := Lib.hid hz; have HOA := Lib.hid hoa; have HOB := Lib.hid hob
  have HC := Lib.hid hcap; have HC2 := Lib.hid hcap2; have HW0 := Lib.hid h0; have HW1 := Lib.hid h1
  clear hk he ho hn hz hoa hob h0 h1 hcap hcap2
  have BB := Lib.hid (((Below.refl w.heap.size w).alloc (Nat.le_refl _) (.cells (rowE a) 31 (0, 0))).alloc (by simp) (.cells (rowE b) 31 (0, 0)))
  have HA0 := Lib.hid (twoA (w := w) (a := a) (b := b)); have HB0 := Lib.hid (twoB (w := w) (a := a) (b := b))
  go_enter Tryd.func6, Tryd.ntmps6
  by_cases h60 : 60 < n
  · have hd : decide (60 < (n : Int)) = true := by simp; omega
    have hd' : decide (60 < n) = true := by simpa using h60
    go_wp2_with fail
    refine (wakes_ok _ (HK.out.below BB.out)).mono ?_
    rintro ε w9 ⟨rfl, hb9⟩
    have B9 := Lib.hid (BB.out.trans (hb9.mono BB.out.size))
    clear hb9
    go_wp2_with fail
    go_ret
    exact ⟨rfl, B9.out⟩
  · have hd : decide (60 < (n : Int)) = false := by simp; omega
    have hd' : decide (60 < n) = false := by simpa using h60
    have hn60 : n ≤ 60 := by omega
    go_wp2_with fail
    refine (push_ok ao cap l n a _ HN.out HC.out HC2.out HZ.out (HK.out.below BB.out) (HE.out.below BB.out) HO.out HOA.out).mono ?_
    have HPL := Lib.hid (pushR_len l a)
    obtain ⟨pr, hpr⟩ : ∃ pr, pushR l a = pr := ⟨_, rfl⟩
    have HPR := Lib.hid hpr
    rw [hpr] at HPL ⊢
    clear hpr
    obtain ⟨pl, pc⟩ := pr
    obtain ⟨pn, hpn⟩ : ∃ pn, pl.length = pn := ⟨_, rfl⟩
    have HPN := Lib.hid hpn
    have hpn61 : pn ≤ 61 := by have h := HPL.out; simp only [hpn] at h; have := HN.out; omega
    rintro ε w1 ⟨a1, c1, rfl, _, _, _, he1, hb1⟩
    simp only [hpn]
    clear hpn
    have B1 := Lib.hid (BB.out.trans (hb1.mono BB.out.size))
    have HE1 := Lib.hid (show Ents w1 a1 pl from he1)
    have HA1 := Lib.hid (show w1.heap[w.heap.size]? = some (.cells (rowE a) 31 (0, 0)) from (hb1.block w.heap.size (by simp; omega)).trans HA0.out)
    have HB1 := Lib.hid (show w1.heap[w.heap.size + 1]? = some (.cells (rowE b) 31 (0, 0)) from (hb1.block (w.heap.size + 1) (by simp)).trans HB0.out)
    have hz1 : w.heap.size + 2 ≤ w1.heap.size := by have := hb1.size; simp at this; omega
    clear he1 hb1 HA0 HB0
    obtain ⟨p0, p1, p2, p3, p4⟩ := blk5 HA1.out
    go_wp2_with fail
    refine (rpush_ok ao cap l n a _ HN.out HC.out HC2.out HZ.out (HE.out.below B1.out) HO.out HOA.out).mono ?_
    rw [HPR.out]
    rintro ε w2 ⟨a2, c2, rfl, _, _, _, he2, hb2⟩
    simp only [HPN.out]
    have B12 := Lib.hid hb2
    have B2 := Lib.hid (B1.out.trans (hb2.mono (by omega)))
    have HE2 := Lib.hid (show Ents w2 a2 pl from he2)
    have hz2 : w1.heap.size ≤ w2.heap.size := hb2.size
    clear he2 hb2 p0 p1 p2 p3 p4
    go_wp2_with fail
    refine (take_all ao cap l n k _ HN.out HC.out HC2.out (HK.out.below B2.out) (HE.out.below B2.out) HO.out).mono ?_
    have HTL := Lib.hid (takeM_len l k)
    obtain ⟨tr, htr⟩ : ∃ tr, takeM l k = tr := ⟨_, rfl⟩
    have HTR := Lib.hid htr
    rw [htr] at HTL ⊢
    clear htr
    obtain ⟨tl, x, tc⟩ := tr
    obtain ⟨tn, htn⟩ : ∃ tn, tl.length = tn := ⟨_, rfl⟩
    have HTN := Lib.hid htn
    have htn60 : tn ≤ 60 := by have h := HTL.out; simp only [htn] at h; have := HN.out; omega
    rintro ε w3 ⟨a3, c3, rfl, he3, hb3⟩
    simp only [htn]
    clear htn
    have B23 := Lib.hid hb3
    have B3 := Lib.hid (B2.out.trans (hb3.mono (by omega)))
    have HE3 := Lib.hid (show Ents w3 a3 tl from he3)
    have hz3 : w2.heap.size ≤ w3.heap.size := hb3.size
    clear he3 hb3
    go_wp2_with (refine wpList_store_row rfl 31 (.tmp 16) (.tmp 48) rfl w3.heap.size (rowE x) rfl rfl 31 _ (heap_alloc_new _ _) (by kernel_rfl) rfl (rowE_one x) ?_)
    have B3s := Lib.hid (B3.out.trans ((put5_below w3 x).mono (by omega)))
    refine (rtake_all ao cap l n k (put5 w3 x) HN.out HC.out HC2.out (HE.out.below B3s.out) HO.out).mono ?_
    rw [HTR.out]
    rintro ε w4 ⟨a4, c4, rfl, he4, hb4⟩
    simp only [HTN.out]
    have B34 := Lib.hid ((put5_below w3 x).trans (hb4.mono (put5_below w3 x).size))
    have B4 := Lib.hid (B3.out.trans (B34.out.mono (by omega)))
    have HE4 := Lib.hid (show Ents w4 a4 tl from he4)
    have HX4 := Lib.hid (show w4.heap[w3.heap.size]? = some (.cells (rowE x) 31 (0, 0)) from (hb4.block w3.heap.size (by rw [put5_size]; omega)).trans (put5_new w3 x))
    have hz4 : w3.heap.size + 1 ≤ w4.heap.size := by have := hb4.size; rw [put5_size] at this; omega
    clear he4 hb4 B3s
    go_wp2_with (refine wpList_store_row rfl 31 (.tmp 19) (.tmp 55) rfl w4.heap.size (rowE x) rfl rfl 31 _ (heap_alloc_new _ _) (by kernel_rfl) rfl (rowE_one x) ?_)
    have B4s := Lib.hid (B4.out.trans ((put5_below w4 x).mono (by omega)))
    refine (forward_ok ao cap l n word (put5 w4 x) HN.out HC.out HC2.out HW0.out HW1.out (HK.out.below B4s.out) (HE.out.below B4s.out) HO.out).mono ?_
    obtain ⟨fr, hfr⟩ : ∃ fr, fwdR l word = fr := ⟨_, rfl⟩
    have HFR := Lib.hid hfr
    rw [hfr]
    clear hfr
    obtain ⟨f1, f2, f3⟩ := fr
    rintro ε w5 ⟨rfl, hb5⟩
    have B45 := Lib.hid ((put5_below w4 x).trans (hb5.mono (put5_below w4 x).size))
    have B5 := Lib.hid (B4.out.trans (B45.out.mono (by omega)))
    have HY5 := Lib.hid (show w5.heap[w4.heap.size]? = some (.cells (rowE x) 31 (0, 0)) from (hb5.block w4.heap.size (by rw [put5_size]; omega)).trans (put5_new w4 x))
    have hz5 : w4.heap.size + 1 ≤ w5.heap.size := by have := hb5.size; rw [put5_size] at this; omega
    clear hb5 B4s
    go_wp2_with fail
    refine (rforward_ok ao cap l n word _ HN.out (by omega) HW0.out HW1.out (HE.out.below B5.out) HO.out).mono ?_
    rw [HFR.out]
    rintro ε w6 ⟨rfl, hb6⟩
    have B56 := Lib.hid hb6
    have B6 := Lib.hid (B5.out.trans (hb6.mono (by omega)))
    have hz6 : w5.heap.size ≤ w6.heap.size := hb6.size
    clear hb6
    have B46 := Lib.hid (B45.out.trans (B56.out.mono (by omega)))
    have B36 := Lib.hid (B34.out.trans (B46.out.mono (by omega)))
    have B26 := Lib.hid (B23.out.trans (B36.out.mono (by omega)))
    have B16 := Lib.hid (B12.out.trans (B26.out.mono (by omega)))
    go_wp2_with fail
    refine (same_ok a1 a2 c1 c2 pl pn _ HPN.out.symm (by omega) (HE1.out.below B16.out) (HE2.out.below B26.out)).mono ?_
    rintro ε w7 ⟨rfl, hb7⟩
    have B67 := Lib.hid hb7
    have hz7 : w6.heap.size ≤ w7.heap.size := hb7.size
    have B37 := Lib.hid (B36.out.trans (hb7.mono (by omega))); have B47 := Lib.hid (B46.out.trans (hb7.mono (by omega)))
    clear hb7
    have hpp : (pc != pc) = false := by simp
    go_wp2_with fail
    refine (same_ok a3 a4 c3 c4 tl tn _ HTN.out.symm (by omega) (HE3.out.below B37.out) (HE4.out.below B47.out)).mono ?_
    rintro ε w8 ⟨rfl, hb8⟩
    have B68 := Lib.hid (B67.out.trans (hb8.mono (by omega)))
    have hz8 : w7.heap.size ≤ w8.heap.size := hb8.size
    clear hb8
    have HX8 := Lib.hid (show w8.heap[w3.heap.size]? = some (.cells (rowE x) 31 (0, 0)) from ((B46.out.trans (B68.out.mono (by omega))).block w3.heap.size (by omega)).trans HX4.out)
    have HY8 := Lib.hid (show w8.heap[w4.heap.size]? = some (.cells (rowE x) 31 (0, 0)) from ((B56.out.trans (B68.out.mono (by omega))).block w4.heap.size (by omega)).trans HY5.out)
    have HA8 := Lib.hid (show w8.heap[w.heap.size]? = some (.cells (rowE a) 31 (0, 0)) from ((B16.out.trans (B68.out.mono (by omega))).block w.heap.size (by omega)).trans HA1.out)
    have HB8 := Lib.hid (show w8.heap[w.heap.size + 1]? = some (.cells (rowE b) 31 (0, 0)) from ((B16.out.trans (B68.out.mono (by omega))).block (w.heap.size + 1) (by omega)).trans HB1.out)
    have B8 := Lib.hid (B6.out.trans (B68.out.mono (by omega)))
    have hzA : w.heap.size < w8.heap.size := by omega
    have hzB : w.heap.size + 1 < w8.heap.size := by omega
    have HK8 := Lib.hid (HK.out.below B8.out); have HE8 := Lib.hid (HE.out.below B8.out)
    have hnn : n ≤ 9223372036854775807 := by omega
    obtain ⟨x0, x1, x2, x3, x4⟩ := blk5 HX8.out
    obtain ⟨y0, y1, y2, y3, y4⟩ := blk5 HY8.out
    have heq := eqE_self x
    have htt : (tc != tc) = false := by simp
    have hf1 : (f1 != f1) = false := by simp
    have hf2 : (f2 != f2) = false := by simp
    have hf3 : (f3 != f3) = false := by simp
    have hcc : (cc (checkB l) == cc (checkB l)) = true := by simp
    have hmm : (mayAt l k == mayAt l k) = true := by simp
    have hto : (touchB a b == touchB a b) = true := by simp
    clear B1 B2 B3 B4 B5 B6 B12 B23 B34 B45 B56 B16 B26 B36 B46 B37 B47 B67 B68 HX4 HY5 HA1 HB1 HX8 HY8 hz1 hz2 hz3 hz4 hz5 hz6 hz7 hz8
    go_wp2_with fail
    clear x0 x1 x2 x3 x4 y0 y1 y2 y3 y4
    obtain ⟨p0, p1, p2, p3, p4⟩ := blk5 HA8.out
    obtain ⟨q0, q1, q2, q3, q4⟩ := blk5 HB8.out
    have BC := Lib.hid (below_drewN (Below.refl w8.heap.size w8) 1)
    go_region_held3 (fun wv => wv.cell? ⟨w.heap.size, 0, none⟩ = some (.int .i8 a.k) ∧ wv.cell? ⟨w.heap.size, 1, none⟩ = some (.int .u64 a.wd) ∧ wv.cell? ⟨w.heap.size, 2, none⟩ = some (.int .u64 a.v) ∧ wv.cell? ⟨w.heap.size, 3, none⟩ = some (.int .i64 a.fr) ∧ wv.cell? ⟨w.heap.size, 4, none⟩ = some (.int .i64 a.fm) ∧ wv.cell? ⟨w.heap.size + 1, 0, none⟩ = some (.int .i8 b.k) ∧ wv.cell? ⟨w.heap.size + 1, 1, none⟩ = some (.int .u64 b.wd) ∧ wv.cell? ⟨w.heap.size + 1, 2, none⟩ = some (.int .u64 b.v) ∧ wv.cell? ⟨w.heap.size + 1, 3, none⟩ = some (.int .i64 b.fr) ∧ wv.cell? ⟨w.heap.size + 1, 4, none⟩ = some (.int .i64 b.fm)) (go_keep)
      (first
        | (go_at_call 7; refine (check_ok ao cap l n _ HN.out hnn (HK8.out.below BC.out) (HE8.out.below BC.out) HO.out).mono ?_; rintro ε wm ⟨rfl, hbm⟩; have BD := Lib.hid (BC.out.trans (hbm.mono BC.out.size)); clear hbm BC; have BC := BD; clear BD; obtain ⟨p0, p1, p2, p3, p4⟩ := blk5 ((BC.out.block w.heap.size hzA).trans HA8.out); obtain ⟨q0, q1, q2, q3, q4⟩ := blk5 ((BC.out.block (w.heap.size + 1) hzB).trans HB8.out))
        | (go_at_call 18; refine (rcheck_ok ao cap l n _ HN.out hnn (HE8.out.below BC.out) HO.out).mono ?_; rintro ε wm ⟨rfl, hbm⟩; have BD := Lib.hid (BC.out.trans (hbm.mono BC.out.size)); clear hbm BC; have BC := BD; clear BD; obtain ⟨p0, p1, p2, p3, p4⟩ := blk5 ((BC.out.block w.heap.size hzA).trans HA8.out); obtain ⟨q0, q1, q2, q3, q4⟩ := blk5 ((BC.out.block (w.heap.size + 1) hzB).trans HB8.out))
        | (go_at_call 10; refine (mayAt_ok ao cap l n k _ HN.out HC.out HC2.out (HK8.out.below BC.out) (HE8.out.below BC.out) HO.out).mono ?_; rintro ε wm ⟨rfl, hbm⟩; have BD := Lib.hid (BC.out.trans (hbm.mono BC.out.size)); clear hbm BC; have BC := BD; clear BD; obtain ⟨p0, p1, p2, p3, p4⟩ := blk5 ((BC.out.block w.heap.size hzA).trans HA8.out); obtain ⟨q0, q1, q2, q3, q4⟩ := blk5 ((BC.out.block (w.heap.size + 1) hzB).trans HB8.out))
        | (go_at_call 19; refine (rmayAt_ok ao cap l n k _ HN.out hnn (HE8.out.below BC.out) HO.out).mono ?_; rintro ε wm ⟨rfl, hbm⟩; have BD := Lib.hid (BC.out.trans (hbm.mono BC.out.size)); clear hbm BC; have BC := BD; clear BD; obtain ⟨p0, p1, p2, p3, p4⟩ := blk5 ((BC.out.block w.heap.size hzA).trans HA8.out); obtain ⟨q0, q1, q2, q3, q4⟩ := blk5 ((BC.out.block (w.heap.size + 1) hzB).trans HB8.out))
        | (go_at_call 20; refine (touch_any a b _ ?_ (HK8.out.below BC.out) HOA.out HOB.out).mono ?_; (first | exact .inl ⟨rfl, rfl⟩ | exact .inr ⟨rfl, rfl⟩); rintro ε wm ⟨rfl, hbm⟩; have BD := Lib.hid (BC.out.trans (hbm.mono BC.out.size)); clear hbm BC; have BC := BD; clear BD; obtain ⟨p0, p1, p2, p3, p4⟩ := blk5 ((BC.out.block w.heap.size hzA).trans HA8.out); obtain ⟨q0, q1, q2, q3, q4⟩ := blk5 ((BC.out.block (w.heap.size + 1) hzB).trans HB8.out))
        | (go_at_call 21; refine (rtouch_ok a b _ HOA.out HOB.out).mono ?_; rintro ε wm ⟨rfl, hbm⟩; have BD := Lib.hid (BC.out.trans (hbm.mono BC.out.size)); clear hbm BC; have BC := BD; clear BD; obtain ⟨p0, p1, p2, p3, p4⟩ := blk5 ((BC.out.block w.heap.size hzA).trans HA8.out); obtain ⟨q0, q1, q2, q3, q4⟩ := blk5 ((BC.out.block (w.heap.size + 1) hzB).trans HB8.out))
        | (go_at_call 8; refine (wakes_ok _ (HK8.out.below BC.out)).mono ?_; rintro ε wm ⟨rfl, hbm⟩; have BD := Lib.hid (BC.out.trans (hbm.mono BC.out.size)); clear hbm BC; have BC := BD; clear BD; obtain ⟨p0, p1, p2, p3, p4⟩ := blk5 ((BC.out.block w.heap.size hzA).trans HA8.out); obtain ⟨q0, q1, q2, q3, q4⟩ := blk5 ((BC.out.block (w.heap.size + 1) hzB).trans HB8.out)))
    all_goals
      have B9 := Lib.hid (B8.out.trans (BC.out.mono B8.out.size))
      go_wp2_with fail
      go_ret
      exact ⟨rfl, B9.out⟩
end Go.Proofs.YtdmcmpbappjdoaaDoor
