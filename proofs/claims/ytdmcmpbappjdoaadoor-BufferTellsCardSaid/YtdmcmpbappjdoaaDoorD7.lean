/- Layer 9: Take. -/
import Derived.Test.YtdmcmpbappjdoaaDoorD6
import Derived.Laws.Rows
import Derived.Laws.Tables
import Derived.Deep.Cut
import Derived.Deep.CutRange
namespace Go.Proofs.YtdmcmpbappjdoaaDoor
open Go.ChangeShapes Go.WideShapes Go.ChangeAt Go.RowKit
set_option linter.unusedVariables false

/-- What is left when the entry at place K is taken. -/
def takeL (l : List Ent) (K : Nat) : List Ent := l.take K ++ (if K = 0 then (l.drop 1).dropWhile isBar else l.drop (K + 1))
def takeC (l : List Ent) (k : Int) : Int := if checkB l = false then 2 else if k < 0 ∨ (l.length : Int) ≤ k then 4 else if freeB l k.toNat = false then 21 else 0
def TakeNo (w : World) (c : Int) (ε : Ending) (w' : World) : Prop := ε = .returned (.tuple #[.slice none 0 0, .agg #[.int .i8 0, .int .u64 0, .int .u64 0, .int .i64 0, .int .i64 0], .int .i64 c]) ∧ Below w.heap.size w w'
def TakeYes (w : World) (l : List Ent) (K : Nat) (ε : Ending) (w' : World) : Prop := ∃ ao cap, ε = .returned (.tuple #[.slice ao (takeL l K).length cap, (nt l K).agg, .int .i64 0]) ∧ (takeL l K).length ≤ cap ∧ cap ≤ 9223372036854775807 ∧ (ao = none → cap = 0) ∧ Ents w' ao (takeL l K) ∧ Below w.heap.size w w'

def rowE (e : Ent) : Array Value := #[.int .i8 e.k, .int .u64 e.wd, .int .u64 e.v, .int .i64 e.fr, .int .i64 e.fm]
theorem rowE_one (e : Ent) : (rowE e).all (·.oneCell') = true := by simp [rowE, Value.oneCell']
theorem blk5 {w : World} {g : Nat} {e : Ent} (h : w.heap[g]? = some (.cells (rowE e) 31 (0, 0))) :
    w.cell? ⟨g, 0, none⟩ = some (.int .i8 e.k) ∧ w.cell? ⟨g, 1, none⟩ = some (.int .u64 e.wd) ∧ w.cell? ⟨g, 2, none⟩ = some (.int .u64 e.v) ∧ w.cell? ⟨g, 3, none⟩ = some (.int .i64 e.fr) ∧ w.cell? ⟨g, 4, none⟩ = some (.int .i64 e.fm) := by
  simp [World.cell?, h, rowE]
theorem row_below {B : Nat} {a w : World} {g : Nat} (h : Below B a w) (hg : B ≤ g) (cs : Array Value) : Below B a (w.setRow g cs) :=
  ⟨h.os, h.tape, h.output, by simpa using h.size, fun i hi => (setRow_other w g i cs (by omega)).trans (h.block i hi)⟩
theorem row_block {w : World} {d x : Nat} {o : Obj} {cs : Array Value} (h : w.heap[x]? = some o) (hne : x ≠ d) : (w.setRow d cs).heap[x]? = some o := (setRow_other w d x cs hne).trans h

set_option maxHeartbeats 1000000 in
theorem take_no (ao : Option Addr) (cap : Nat) (l : List Ent) (n : Nat) (k : Int) (w : World) (hn : n = l.length) (hcap : n ≤ cap) (hcap2 : cap ≤ 9223372036854775807) (hk : TK w) (he : Ents w ao l) (ho : Oks l) (c : Int) (hc : takeC l k = c) (hc0 : c ≠ 0) :
    Calls Tryd.prog 11 #[.slice ao n cap, .int .i64 k] w (TakeNo w c) := by
  have HN := Lib.hid hn; have HK := Lib.hid hk; have HE := Lib.hid he; have HO := Lib.hid ho; have HC := Lib.hid hc; have HC0 := Lib.hid hc0
  clear hk he ho hn hc hc0
  have BB := Lib.hid ((Below.refl w.heap.size w).alloc (Nat.le_refl _) (.cells (rowE e0) 31 (0, 0)))
  have HG0 := Lib.hid (show (w.alloc (.cells (rowE e0) 31 (0, 0))).heap[w.heap.size]? = some (.cells (rowE e0) 31 (0, 0)) from heap_alloc_new _ _)
  go_enter Tryd.func11, Tryd.ntmps11
  go_wp2_with fail
  refine (check_ok ao cap l n _ HN.out (by omega) (HK.out.below BB.out) (HE.out.below BB.out) HO.out).mono ?_
  rintro ε w1 ⟨rfl, hb1⟩
  have B1 := Lib.hid (BB.out.trans (show Below w.heap.size (w.alloc (.cells (rowE e0) 31 (0, 0))) w1 from hb1.mono (by simp)))
  have hz1 : w.heap.size + 1 ≤ w1.heap.size := by have := hb1.size; simp at this; omega
  have HG1 := Lib.hid (show w1.heap[w.heap.size]? = some (.cells (rowE e0) 31 (0, 0)) from (hb1.block w.heap.size (by simp)).trans HG0.out)
  clear hb1
  cases hch : checkB l
  · have HE2 := Lib.hid (show c = 2 by rw [← HC.out]; simp [takeC, hch])
    have hcc : (cc false != 0) = true := rfl
    clear hch
    go_wp2_with (refine wpList_store_row rfl 31 (.tmp 5) (.tmp 14) rfl w.heap.size (rowE e0) rfl rfl 31 _ HG1.out (by kernel_rfl) rfl (rowE_one e0) ?_)
    obtain ⟨q0, q1, q2, q3, q4⟩ := blk5 (setRow_heap w1 w.heap.size _ (rowE e0) 31 (0, 0) HG1.out)
    refine bodyPost_ret (v := .tuple #[.slice none 0 0, .agg #[.int .i8 e0.k, .int .u64 e0.wd, .int .u64 e0.v, .int .i64 e0.fr, .int .i64 e0.fm], .int .i64 (cc false)]) (by simp [results, Tryd.results11, go_sem, q0, q1, q2, q3, q4]) rfl ?_
    exact ⟨by rw [HE2.out]; rfl, row_below B1.out (Nat.le_refl _) _⟩
  · have hcc : (cc true != 0) = false := rfl
    have HCH := Lib.hid hch
    clear hch
    by_cases h0 : k < 0
    · have HE2 := Lib.hid (show c = 4 by rw [← HC.out]; simp [takeC, HCH.out, h0])
      go_wp2_with (refine wpList_store_row rfl 31 (.tmp 5) (.tmp 24) rfl w.heap.size (rowE e0) rfl rfl 31 _ HG1.out (by kernel_rfl) rfl (rowE_one e0) ?_)
      obtain ⟨q0, q1, q2, q3, q4⟩ := blk5 (setRow_heap w1 w.heap.size _ (rowE e0) 31 (0, 0) HG1.out)
      refine bodyPost_ret (v := .tuple #[.slice none 0 0, .agg #[.int .i8 e0.k, .int .u64 e0.wd, .int .u64 e0.v, .int .i64 e0.fr, .int .i64 e0.fm], .int .i64 4]) (by simp [results, Tryd.results11, go_sem, q0, q1, q2, q3, q4]) rfl ?_
      exact ⟨by rw [HE2.out]; rfl, row_below B1.out (Nat.le_refl _) _⟩
    · obtain ⟨K, rfl⟩ : ∃ K : Nat, k = K := ⟨k.toNat, by omega⟩
      by_cases h1 : K < n
      · obtain ⟨b, off, rfl, _⟩ := HE.out K (by have := HN.out; omega)
        have HF := Lib.hid (show freeB l K = false by
          cases hf : freeB l K
          · rfl
          · exfalso
            apply HC0.out
            rw [← HC.out]
            have h2 : ¬ (l.length ≤ K) := by have := HN.out; omega
            simp [takeC, HCH.out, hf, h2])
        have HE2 := Lib.hid (show c = 21 by
          rw [← HC.out]
          have h2 : ¬ (l.length ≤ K) := by have := HN.out; omega
          simp [takeC, HCH.out, HF.out, h2])
        go_wp2_with fail
        refine (free_ok b off cap l n K _ HN.out hcap hcap2 (HK.out.below B1.out) (HE.out.below B1.out) HO.out h1).mono ?_
        rw [HF.out]
        rintro ε w2 ⟨rfl, hb2⟩
        have B2 := Lib.hid (B1.out.trans (hb2.mono (by omega)))
        have HG2 := Lib.hid (show w2.heap[w.heap.size]? = some (.cells (rowE e0) 31 (0, 0)) from (hb2.block w.heap.size (by omega)).trans HG1.out)
        clear hb2
        go_wp2_with (refine wpList_store_row rfl 31 (.tmp 5) (.tmp 29) rfl w.heap.size (rowE e0) rfl rfl 31 _ HG2.out (by kernel_rfl) rfl (rowE_one e0) ?_)
        obtain ⟨q0, q1, q2, q3, q4⟩ := blk5 (setRow_heap w2 w.heap.size _ (rowE e0) 31 (0, 0) HG2.out)
        refine bodyPost_ret (v := .tuple #[.slice none 0 0, .agg #[.int .i8 e0.k, .int .u64 e0.wd, .int .u64 e0.v, .int .i64 e0.fr, .int .i64 e0.fm], .int .i64 21]) (by simp [results, Tryd.results11, go_sem, q0, q1, q2, q3, q4]) rfl ?_
        exact ⟨by rw [HE2.out]; rfl, row_below B2.out (Nat.le_refl _) _⟩
      · have HE2 := Lib.hid (show c = 4 by
          rw [← HC.out]
          have h2 : l.length ≤ K := by have := HN.out; omega
          simp [takeC, HCH.out, h2])
        have h1' : decide (n ≤ K) = true := by simpa using h1
        go_wp2_with (refine wpList_store_row rfl 31 (.tmp 5) (.tmp 24) rfl w.heap.size (rowE e0) rfl rfl 31 _ HG1.out (by kernel_rfl) rfl (rowE_one e0) ?_)
        obtain ⟨q0, q1, q2, q3, q4⟩ := blk5 (setRow_heap w1 w.heap.size _ (rowE e0) 31 (0, 0) HG1.out)
        refine bodyPost_ret (v := .tuple #[.slice none 0 0, .agg #[.int .i8 e0.k, .int .u64 e0.wd, .int .u64 e0.v, .int .i64 e0.fr, .int .i64 e0.fm], .int .i64 4]) (by simp [results, Tryd.results11, go_sem, q0, q1, q2, q3, q4]) rfl ?_
        exact ⟨by rw [HE2.out]; rfl, row_below B1.out (Nat.le_refl _) _⟩

/-- What stands behind, bars ahead of it taken away where none is ahead. -/
def Beh (l : List Ent) (K : Nat) (rest : List Ent) : Prop := if K = 0 then rest.dropWhile isBar = (l.drop 1).dropWhile isBar else rest = l.drop (K + 1)
theorem Beh.start (l : List Ent) (K : Nat) : Beh l K (l.drop (K + 1)) := by
  unfold Beh
  split
  · rename_i h; subst h; rfl
  · rfl
theorem Beh.step {l : List Ent} {e : Ent} {r : List Ent} (h : Beh l 0 (e :: r)) (hb : isBar e = true) : Beh l 0 r := by
  unfold Beh at h ⊢
  rw [if_pos rfl] at h ⊢
  rw [← h, List.dropWhile_cons, if_pos hb]
theorem Beh.done {l : List Ent} {K : Nat} {r : List Ent} (h : Beh l K r) (hd : K ≠ 0 ∨ headBar r = false) : l.take K ++ r = takeL l K := by
  unfold Beh at h
  unfold takeL
  by_cases hK : K = 0
  · rw [if_pos hK] at h ⊢
    rw [← h]
    cases r with
    | nil => rfl
    | cons e r =>
      have : isBar e = false := hd.resolve_left (by omega)
      rw [List.dropWhile_cons, if_neg (by rw [this]; simp)]
  · rw [if_neg hK] at h ⊢
    rw [h]
theorem nt_drop (l : List Ent) (K i : Nat) : nt (l.drop K) i = nt l (K + i) := by simp [nt, List.getElem?_drop]
theorem nt_take {l : List Ent} {K i : Nat} (h : i < K) : nt (l.take K) i = nt l i := by simp [nt, h]
theorem Ents.take {w : World} {ao : Option Addr} {l : List Ent} (h : Ents w ao l) (K : Nat) : Ents w ao (l.take K) := fun i hi => by
  simp only [List.length_take] at hi
  obtain ⟨b, off, e, x⟩ := h i (by omega)
  exact ⟨b, off, e, by rw [nt_take (by omega)]; exact x⟩
theorem Ents.drop {w : World} {b off : Nat} {l : List Ent} (h : Ents w (some ⟨b, off, none⟩) l) (K : Nat) : Ents w (some ⟨b, off + K * 5, none⟩) (l.drop K) := fun i hi => by
  simp only [List.length_drop] at hi
  obtain ⟨b', off', e, x⟩ := h (K + i) (by omega)
  cases e
  refine ⟨b, off + K * 5, rfl, ?_⟩
  rw [nt_drop, show off + K * 5 + i * 5 = off + (K + i) * 5 by omega]
  exact x
theorem Ents.none_ {w : World} {ao : Option Addr} : Ents w ao [] := fun i hi => absurd hi (Nat.not_lt_zero _)
theorem Ents.off {w w' : World} {ao : Option Addr} {l : List Ent} {g : Nat} (h : Ents w ao l) (hk : ∀ b o, b ≠ g → w'.cell? ⟨b, o, none⟩ = w.cell? ⟨b, o, none⟩) (hg : ∀ ad, ao = some ad → g < ad.block) : Ents w' ao l := fun i hi => by
  obtain ⟨b, off, e, x⟩ := h i hi
  have hne : b ≠ g := by have := hg _ e; simp at this; omega
  exact ⟨b, off, e, ⟨(hk b _ hne).trans x.c0, (hk b _ hne).trans x.c1, (hk b _ hne).trans x.c2, (hk b _ hne).trans x.c3, (hk b _ hne).trans x.c4⟩⟩
theorem drew_alloc (w : World) (o : Obj) : Below w.heap.size w (w.drew.alloc o) := by
  have h : Below w.drew.heap.size w.drew (w.drew.alloc o) := (Below.refl _ _).alloc (Nat.le_refl _) o
  exact ⟨h.os, h.tape, h.output, h.size, h.block⟩
def set5 (w : World) (g : Nat) (e : Ent) : World := ((((w.setCell ⟨g, 0, none⟩ (.int .i8 e.k)).setCell ⟨g, 1, none⟩ (.int .u64 e.wd)).setCell ⟨g, 2, none⟩ (.int .u64 e.v)).setCell ⟨g, 3, none⟩ (.int .i64 e.fr)).setCell ⟨g, 4, none⟩ (.int .i64 e.fm)
theorem set5_other (w : World) (g : Nat) (e : Ent) (b o : Nat) (h : b ≠ g) : (set5 w g e).cell? ⟨b, o, none⟩ = w.cell? ⟨b, o, none⟩ := by
  have hh : ∀ (w : World) (j : Nat) (v : Value), (w.setCell ⟨g, j, none⟩ v).cell? ⟨b, o, none⟩ = w.cell? ⟨b, o, none⟩ := fun w j v => World.cell?_setCell_other w _ _ v (by intro he; injection he with h1 _ _; exact h h1.symm)
  unfold set5
  rw [hh, hh, hh, hh, hh]
theorem set5_below {B : Nat} {a w : World} {g : Nat} {e : Ent} (h : Below B a w) (hg : B ≤ g) : Below B a (set5 w g e) := by
  unfold set5
  exact ((((h.setCell hg _).setCell hg _).setCell hg _).setCell hg _).setCell hg _
theorem blk5f {w : World} {g : Nat} {e : Ent} (h : w.heap[g]? = some (.cells (rowE e) 31 (0, 0))) :
    w.frozen? ⟨g, 0, none⟩ = false ∧ w.frozen? ⟨g, 1, none⟩ = false ∧ w.frozen? ⟨g, 2, none⟩ = false ∧ w.frozen? ⟨g, 3, none⟩ = false ∧ w.frozen? ⟨g, 4, none⟩ = false := by
  simp [World.frozen?, h]
theorem below_after {w w3 : World} {o : Obj} (hb : Below (w.drew.alloc o).heap.size (w.drew.alloc o) w3) : Below w.heap.size w w3 := (drew_alloc w o).trans (hb.mono (by
  show w.heap.size ≤ (w.drew.alloc o).heap.size
  have := (drew_alloc w o).size
  exact this))
theorem new_after {w w3 : World} {o : Obj} {ao : Option Addr} (hb : Below (w.drew.alloc o).heap.size (w.drew.alloc o) w3) (h : ∀ ad, ao = some ad → (w.drew.alloc o).heap.size ≤ ad.block) : ∀ ad, ao = some ad → w.heap.size ≤ ad.block := fun ad he => Nat.le_trans (drew_alloc w o).size (h ad he)
def lenS : Value → Nat
  | .slice _ m _ => m
  | _ => 0

set_option maxHeartbeats 1000000 in
theorem take_yes (b off cap : Nat) (l : List Ent) (n K : Nat) (w : World) (hn : n = l.length) (hcap : n ≤ cap) (hcap2 : cap ≤ 9223372036854775807) (hk : TK w) (he : Ents w (some ⟨b, off, none⟩) l) (ho : Oks l) (hK : K < n) (hch : checkB l = true) (hf : freeB l K = true) :
    Calls Tryd.prog 11 #[.slice (some ⟨b, off, none⟩) n cap, .int .i64 K] w (TakeYes w l K) := by
  have HN := Lib.hid hn; have HK := Lib.hid hk; have HE := Lib.hid he; have HO := Lib.hid ho; have HCH := Lib.hid hch; have HF := Lib.hid hf
  have hn8 : n ≤ 8 := by simp [checkB] at hch; omega
  clear hk he ho hn hch hf
  have BB := Lib.hid ((Below.refl w.heap.size w).alloc (Nat.le_refl _) (.cells (rowE e0) 31 (0, 0)))
  have HG0 := Lib.hid (show (w.alloc (.cells (rowE e0) 31 (0, 0))).heap[w.heap.size]? = some (.cells (rowE e0) 31 (0, 0)) from heap_alloc_new _ _)
  go_enter Tryd.func11, Tryd.ntmps11
  go_wp2_with fail
  refine (check_ok (some ⟨b, off, none⟩) cap l n _ HN.out (by omega) (HK.out.below BB.out) (HE.out.below BB.out) HO.out).mono ?_
  rw [HCH.out]
  rintro ε w1 ⟨rfl, hb1⟩
  have B1 := Lib.hid (BB.out.trans (show Below w.heap.size (w.alloc (.cells (rowE e0) 31 (0, 0))) w1 from hb1.mono (by simp)))
  have hz1 : w.heap.size + 1 ≤ w1.heap.size := by have := hb1.size; simp at this; omega
  have HG1 := Lib.hid (show w1.heap[w.heap.size]? = some (.cells (rowE e0) 31 (0, 0)) from (hb1.block w.heap.size (by simp)).trans HG0.out)
  clear hb1
  have hcc : (cc true != 0) = false := rfl
  go_wp2_with fail
  refine (free_ok b off cap l n K _ HN.out hcap hcap2 (HK.out.below B1.out) (HE.out.below B1.out) HO.out hK).mono ?_
  rw [HF.out]
  rintro ε w2 ⟨rfl, hb2⟩
  have B2 := Lib.hid (B1.out.trans (hb2.mono (by omega)))
  have HG2 := Lib.hid (show w2.heap[w.heap.size]? = some (.cells (rowE e0) 31 (0, 0)) from (hb2.block w.heap.size (by omega)).trans HG1.out)
  have hz2 : w.heap.size + 1 ≤ w2.heap.size := by have := hb2.size; omega
  clear hb2
  have hK0 : decide ((K : Int) < 0) = false := by simp
  go_upto_region 8 with fail
  go_cut [8, 9] from 10 to 70 (fun s8 s9 wx => s8 = .slice (some ⟨b, off, none⟩) K K ∧ (∃ o9, s9 = .slice (some ⟨b, o9, none⟩) (n - (K + 1)) (n - (K + 1)) ∧ Ents w2 (some ⟨b, o9, none⟩) (l.drop (K + 1))) ∧ ∃ q, wx = w2.drewN q)
  case first =>
    have HE2 := Lib.hid (HE.out.below B2.out)
    by_cases hlast : K + 1 = n
    · go_quiet (fail)
      go_wp2_with fail
      go_meet
      case rel => exact ⟨rfl, ⟨off, by rw [hlast, Nat.sub_self], by rw [List.drop_of_length_le (by have := HN.out; omega)]; exact Ents.none_⟩, nq, rfl⟩
    · go_quiet (fail)
      go_wp2_with fail
      go_meet
      case rel => exact ⟨rfl, ⟨_, rfl, HE2.out.drop (K + 1)⟩, nq, rfl⟩
  case rest =>
    obtain ⟨rfl, ⟨o9, rfl, hE9⟩, nq, rfl⟩ := hcut
    have HE9 := Lib.hid hE9
    clear hE9
    obtain ⟨wz, hwz⟩ : ∃ wz, w2.drewN nq = wz := ⟨_, rfl⟩
    have BZ := Lib.hid (show Below w.heap.size w wz from hwz ▸ below_drewN B2.out nq)
    have HGZ := Lib.hid (show wz.heap[w.heap.size]? = some (.cells (rowE e0) 31 (0, 0)) from hwz ▸ HG2.out)
    have HEZ := Lib.hid (show Ents wz (some ⟨b, o9, none⟩) (l.drop (K + 1)) from hwz ▸ HE9.out.drewN nq)
    have hzz : w.heap.size + 1 ≤ wz.heap.size := hwz ▸ hz2
    rw [hwz]
    clear hwz HE9 HG2 B2 hz2 HG1 B1 hz1 HG0 BB
    go_wp2_with fail
    go_loop [9] (fun s => ∃ (o m : Nat) (rest : List Ent), s = .slice (some ⟨b, o, none⟩) m m ∧ m = rest.length ∧ m ≤ 8 ∧ Ents wz (some ⟨b, o, none⟩) rest ∧ Beh l K rest) (fun s => lenS s)
    case atStart => exact ⟨o9, _, l.drop (K + 1), rfl, by simp; have := HN.out; omega, by omega, HEZ.out, Beh.start l K⟩
    case round =>
      obtain ⟨o, m, rest, rfl, hm, hm8, hEr, hBh⟩ := hrel
      have HMr := Lib.hid hm; have HEr := Lib.hid hEr; have HBh := Lib.hid hBh
      clear hm hEr hBh
      by_cases hgo : K = 0 ∧ headBar rest = true
      · obtain ⟨rfl, hhb⟩ := hgo
        cases rest with
        | nil => cases hhb
        | cons e r =>
          have hlen : m = r.length + 1 := HMr.out
          have hm0 : 0 < m := by omega
          obtain ⟨b', o', e', x⟩ := HEr.out 0 (by simp)
          cases e'
          have x0 := x.c0
          simp only [Nat.zero_mul, Nat.add_zero] at x0
          have hbar : ((nt (e :: r) 0).k == 1) = true := hhb
          have HLEN := Lib.hid hlen
          have HHB := Lib.hid (show isBar e = true from hhb)
          clear x hhb hlen
          by_cases hm1 : m = 1
          · subst hm1
            go_wp2_with fail
            go_round
            case rel => exact ⟨o, 0, r, rfl, by have := HLEN.out; omega, by omega, by
              have : r = [] := List.length_eq_zero_iff.1 (by have := HLEN.out; omega)
              rw [this]; exact Ents.none_, HBh.out.step HHB.out⟩
            case measure => simp [lenS]
          · go_wp2_with fail
            go_round
            case rel => exact ⟨o + 5, m - 1, r, rfl, by have := HLEN.out; omega, by omega, by have := HEr.out.drop 1; simpa using this, HBh.out.step HHB.out⟩
            case measure => simp [lenS]; omega
      · have HDN := Lib.hid (HBh.out.done (by
          by_cases hk0 : K = 0
          · right
            cases hh : headBar rest
            · rfl
            · exact absurd ⟨hk0, hh⟩ hgo
          · exact .inl hk0))
        have HTL := Lib.hid (show K = (l.take K).length by simp; have := HN.out; omega)
        have HTK := Lib.hid (Ents.take (HE.out.below BZ.out) K)
        have hK100 : K ≤ 100 := by omega
        obtain ⟨b', off', e', xK⟩ := HE.out K (by have := HN.out; omega)
        cases e'
        have HEK := Lib.hid (xK.below BZ.out)
        obtain ⟨x0, x1, x2, x3, x4⟩ := xK.below BZ.out
        have hbw : b < w.heap.size := xK.lt
        have hbn : ¬ b = w.heap.size := by omega
        have hbn' : ¬ w.heap.size = b := by omega
        clear xK
        have hcase : K ≠ 0 ∨ (K = 0 ∧ m = 0) ∨ (K = 0 ∧ 0 < m ∧ ((nt rest 0).k == 1) = false) := by
          by_cases hk0 : K = 0
          · by_cases hm0 : m = 0
            · exact .inr (.inl ⟨hk0, hm0⟩)
            · refine .inr (.inr ⟨hk0, by omega, ?_⟩)
              have hl : 0 < rest.length := by have := HMr.out; omega
              cases hh : headBar rest
              · rw [headBar_nt hl] at hh; exact hh
              · exact absurd ⟨hk0, hh⟩ hgo
          · exact .inl hk0
        clear hgo
        rcases hcase with hc | ⟨hc, hm0⟩ | ⟨hc, hm0, hnb⟩
        · have h1 : ((K : Int) == 0) = false := by simpa using hc
          have h2 : (K == 0) = false := by simpa using hc
          go_wp2_with fail
          go_region_held3 (fun wv => wv.cell? ⟨b, off + K * 5, none⟩ = some (.int .i8 (nt l K).k) ∧ wv.cell? ⟨b, off + K * 5 + 1, none⟩ = some (.int .u64 (nt l K).wd) ∧ wv.cell? ⟨b, off + K * 5 + 2, none⟩ = some (.int .u64 (nt l K).v) ∧ wv.cell? ⟨b, off + K * 5 + 3, none⟩ = some (.int .i64 (nt l K).fr) ∧ wv.cell? ⟨b, off + K * 5 + 4, none⟩ = some (.int .i64 (nt l K).fm)) (go_keep)
            (first | (go_at_call 24; refine (gather_ok wz.heap.size (some ⟨b, off, none⟩) (some ⟨b, o, none⟩) K K m m (l.take K) rest _ HTL.out HMr.out hK100 (Nat.le_trans hm8 (by decide)) (fun h => nomatch h) (fun h => nomatch h) ?_ ?_ (HTK.out.below (drew_alloc _ _)) (HEr.out.below (drew_alloc _ _))).mono ?_; simp [go_sem]; simp [go_sem]; intro ε w3 hp; obtain ⟨ao3, cap3, rfl, g1, g2, g3, g4, hE3, hb3⟩ := hp; obtain ⟨n3, hn3⟩ : ∃ n3, (List.take K l ++ rest).length = n3 := ⟨_, rfl⟩; rw [hn3]; have HN3 := Lib.hid hn3; clear hn3; have BW := Lib.hid (below_after hb3); have G1 := Lib.hid g1; have G2 := Lib.hid g2; have G3 := Lib.hid g3; have G4 := Lib.hid (new_after hb3 g4); have HE3 := Lib.hid hE3; clear g1 g2 g3 g4 hE3 hb3; obtain ⟨y0, y1, y2, y3, y4⟩ := HEK.out.below BW.out; obtain ⟨q0, q1, q2, q3, q4⟩ := blk5 ((BW.out.block w.heap.size hzz).trans HGZ.out); obtain ⟨f0, f1, f2, f3, f4⟩ := blk5f ((BW.out.block w.heap.size hzz).trans HGZ.out)))
          all_goals
            go_wp2_with fail
            refine bodyPost_ret (v := .tuple #[.slice ao3 n3 cap3, .agg #[.int .i8 (nt l K).k, .int .u64 (nt l K).wd, .int .u64 (nt l K).v, .int .i64 (nt l K).fr, .int .i64 (nt l K).fm], .int .i64 0]) (by simp [results, Tryd.results11, go_sem, q0, q1, q2, q3, q4]) rfl ?_
            unfold TakeYes
            rw [← HDN.out]
            exact ⟨ao3, cap3, by rw [HN3.out], G1.out, G2.out, G3.out, Ents.off (w' := set5 w3 w.heap.size (nt l K)) HE3.out (fun b o h => set5_other w3 w.heap.size _ b o h) (fun ad h => by have := G4.out ad h; omega), set5_below (e := nt l K) (BZ.out.trans (BW.out.mono (by omega))) (Nat.le_refl _)⟩
        · have h1 : ((K : Int) == 0) = true := by simp [hc]
          have h2 : (K == 0) = true := by simp [hc]
          have h3 : decide (0 < (m : Int)) = false := by simp [hm0]
          have h4 : decide (0 < m) = false := by simp [hm0]
          have HCK := Lib.hid hc; have HMK := Lib.hid hm0
          clear hc hm0
          go_wp2_with fail
          go_region_held3 (fun wv => wv.cell? ⟨b, off + K * 5, none⟩ = some (.int .i8 (nt l K).k) ∧ wv.cell? ⟨b, off + K * 5 + 1, none⟩ = some (.int .u64 (nt l K).wd) ∧ wv.cell? ⟨b, off + K * 5 + 2, none⟩ = some (.int .u64 (nt l K).v) ∧ wv.cell? ⟨b, off + K * 5 + 3, none⟩ = some (.int .i64 (nt l K).fr) ∧ wv.cell? ⟨b, off + K * 5 + 4, none⟩ = some (.int .i64 (nt l K).fm)) (go_keep)
            (first | (go_at_call 24; refine (gather_ok wz.heap.size (some ⟨b, off, none⟩) (some ⟨b, o, none⟩) K K m m (l.take K) rest _ HTL.out HMr.out hK100 (Nat.le_trans hm8 (by decide)) (fun h => nomatch h) (fun h => nomatch h) ?_ ?_ (HTK.out.below (drew_alloc _ _)) (HEr.out.below (drew_alloc _ _))).mono ?_; simp [go_sem]; simp [go_sem]; intro ε w3 hp; obtain ⟨ao3, cap3, rfl, g1, g2, g3, g4, hE3, hb3⟩ := hp; obtain ⟨n3, hn3⟩ : ∃ n3, (List.take K l ++ rest).length = n3 := ⟨_, rfl⟩; rw [hn3]; have HN3 := Lib.hid hn3; clear hn3; have BW := Lib.hid (below_after hb3); have G1 := Lib.hid g1; have G2 := Lib.hid g2; have G3 := Lib.hid g3; have G4 := Lib.hid (new_after hb3 g4); have HE3 := Lib.hid hE3; clear g1 g2 g3 g4 hE3 hb3; obtain ⟨y0, y1, y2, y3, y4⟩ := HEK.out.below BW.out; obtain ⟨q0, q1, q2, q3, q4⟩ := blk5 ((BW.out.block w.heap.size hzz).trans HGZ.out); obtain ⟨f0, f1, f2, f3, f4⟩ := blk5f ((BW.out.block w.heap.size hzz).trans HGZ.out)))
          all_goals
            go_wp2_with fail
            refine bodyPost_ret (v := .tuple #[.slice ao3 n3 cap3, .agg #[.int .i8 (nt l K).k, .int .u64 (nt l K).wd, .int .u64 (nt l K).v, .int .i64 (nt l K).fr, .int .i64 (nt l K).fm], .int .i64 0]) (by simp [results, Tryd.results11, go_sem, q0, q1, q2, q3, q4]) rfl ?_
            unfold TakeYes
            rw [← HDN.out]
            exact ⟨ao3, cap3, by rw [HN3.out], G1.out, G2.out, G3.out, Ents.off (w' := set5 w3 w.heap.size (nt l K)) HE3.out (fun b o h => set5_other w3 w.heap.size _ b o h) (fun ad h => by have := G4.out ad h; omega), set5_below (e := nt l K) (BZ.out.trans (BW.out.mono (by omega))) (Nat.le_refl _)⟩
        · have h1 : ((K : Int) == 0) = true := by simp [hc]
          have h2 : (K == 0) = true := by simp [hc]
          obtain ⟨b', o', e', xr⟩ := HEr.out 0 (by have := HMr.out; omega)
          cases e'
          have xr0 := xr.c0
          simp only [Nat.zero_mul, Nat.add_zero] at xr0
          clear xr
          have HCK := Lib.hid hc
          clear hc
          go_wp2_with fail
          go_region_held3 (fun wv => wv.cell? ⟨b, off + K * 5, none⟩ = some (.int .i8 (nt l K).k) ∧ wv.cell? ⟨b, off + K * 5 + 1, none⟩ = some (.int .u64 (nt l K).wd) ∧ wv.cell? ⟨b, off + K * 5 + 2, none⟩ = some (.int .u64 (nt l K).v) ∧ wv.cell? ⟨b, off + K * 5 + 3, none⟩ = some (.int .i64 (nt l K).fr) ∧ wv.cell? ⟨b, off + K * 5 + 4, none⟩ = some (.int .i64 (nt l K).fm)) (go_keep)
            (first | (go_at_call 24; refine (gather_ok wz.heap.size (some ⟨b, off, none⟩) (some ⟨b, o, none⟩) K K m m (l.take K) rest _ HTL.out HMr.out hK100 (Nat.le_trans hm8 (by decide)) (fun h => nomatch h) (fun h => nomatch h) ?_ ?_ (HTK.out.below (drew_alloc _ _)) (HEr.out.below (drew_alloc _ _))).mono ?_; simp [go_sem]; simp [go_sem]; intro ε w3 hp; obtain ⟨ao3, cap3, rfl, g1, g2, g3, g4, hE3, hb3⟩ := hp; obtain ⟨n3, hn3⟩ : ∃ n3, (List.take K l ++ rest).length = n3 := ⟨_, rfl⟩; rw [hn3]; have HN3 := Lib.hid hn3; clear hn3; have BW := Lib.hid (below_after hb3); have G1 := Lib.hid g1; have G2 := Lib.hid g2; have G3 := Lib.hid g3; have G4 := Lib.hid (new_after hb3 g4); have HE3 := Lib.hid hE3; clear g1 g2 g3 g4 hE3 hb3; obtain ⟨y0, y1, y2, y3, y4⟩ := HEK.out.below BW.out; obtain ⟨q0, q1, q2, q3, q4⟩ := blk5 ((BW.out.block w.heap.size hzz).trans HGZ.out); obtain ⟨f0, f1, f2, f3, f4⟩ := blk5f ((BW.out.block w.heap.size hzz).trans HGZ.out)))
          all_goals
            go_wp2_with fail
            refine bodyPost_ret (v := .tuple #[.slice ao3 n3 cap3, .agg #[.int .i8 (nt l K).k, .int .u64 (nt l K).wd, .int .u64 (nt l K).v, .int .i64 (nt l K).fr, .int .i64 (nt l K).fm], .int .i64 0]) (by simp [results, Tryd.results11, go_sem, q0, q1, q2, q3, q4]) rfl ?_
            unfold TakeYes
            rw [← HDN.out]
            exact ⟨ao3, cap3, by rw [HN3.out], G1.out, G2.out, G3.out, Ents.off (w' := set5 w3 w.heap.size (nt l K)) HE3.out (fun b o h => set5_other w3 w.heap.size _ b o h) (fun ad h => by have := G4.out ad h; omega), set5_below (e := nt l K) (BZ.out.trans (BW.out.mono (by omega))) (Nat.le_refl _)⟩
end Go.Proofs.YtdmcmpbappjdoaaDoor
