/- Layer 9: wakes. -/
import Derived.Test.YtdmcmpbappjdoaaDoorD8
namespace Go.Proofs.YtdmcmpbappjdoaaDoor
open Go.ChangeShapes Go.WideShapes Go.ChangeAt Go.RowKit
set_option linter.unusedVariables false

def one : Ent := ⟨0, 1, 0, 0, 0⟩
def two : Ent := ⟨0, 2, 0, 0, 0⟩
def bar : Ent := ⟨1, 0, 0, 0, 0⟩
def zer : Ent := ⟨2, 0, 0, 0, 0⟩
def fiv : Ent := ⟨0, 5, 0, 0, 0⟩
def z8 : Array Value := (cellsE [e0, e0, e0, e0, e0, e0, e0, e0]).toArray
theorem ents_blk {w : World} {g : Nat} {cs : Array Value} {l : List Ent} (h : w.heap[g]? = some (.cells cs 31 (0, 0))) (hl : cs.toList = cellsE l) : Ents w (some ⟨g, 0, none⟩) l := fun i hi => by
  have key : ∀ j u, (cellsE l)[j]? = some u → w.cell? ⟨g, j, none⟩ = some u := by
    intro j u hu
    rw [← hl] at hu
    simpa [World.cell?, h] using hu
  obtain ⟨g0, g1, g2, g3, g4⟩ := cellsE_get l i hi
  refine ⟨g, 0, rfl, ?_⟩
  rw [Nat.zero_add]
  exact ⟨key _ _ g0, key _ _ g1, key _ _ g2, key _ _ g3, key _ _ g4⟩
theorem mk8 (w : World) : (Instr.makeSlice 22 (.int .i64 8) (.int .i64 8)).run Tryd.prog w = .ok (.slice (some ⟨w.heap.size, 0, none⟩) 8 8) (w.alloc (.cells z8 31)) := by kernel_rfl
theorem ok_of {e : Ent} (h0 : -128 ≤ e.k ∧ e.k ≤ 127 ∧ 0 ≤ e.wd ∧ e.wd ≤ 18446744073709551615 ∧ 0 ≤ e.v ∧ e.v ≤ 18446744073709551615 ∧ -9223372036854775808 ≤ e.fr ∧ e.fr ≤ 9223372036854775807 ∧ -9223372036854775808 ≤ e.fm ∧ e.fm ≤ 9223372036854775807) : e.ok :=
  ⟨h0.1, h0.2.1, h0.2.2.1, h0.2.2.2.1, h0.2.2.2.2.1, h0.2.2.2.2.2.1, h0.2.2.2.2.2.2.1, h0.2.2.2.2.2.2.2.1, h0.2.2.2.2.2.2.2.2.1, h0.2.2.2.2.2.2.2.2.2⟩

def la : List Ent := [one, two, one]
def lb : List Ent := [one, bar, two]
def lc : List Ent := [zer, fiv]
def l8 : List Ent := [e0, e0, e0, e0, e0, e0, e0, e0]
def aE (l : List Ent) : Array Value := (cellsE l).toArray
def W6 (w : World) : World := (((((w.alloc (.cells (rowE one) 31)).alloc (.cells (rowE two) 31)).alloc (.cells (rowE bar) 31)).alloc (.cells (aE la) 31)).alloc (.cells (aE lb) 31)).alloc (.cells (aE lc) 31)
structure Wk (w w6 : World) : Prop where
  be : Below w.heap.size w w6
  sz : w6.heap.size = w.heap.size + 6
  o1 : w6.heap[w.heap.size]? = some (.cells (rowE one) 31 (0, 0))
  a : w6.heap[w.heap.size + 3]? = some (.cells (aE la) 31 (0, 0))
  b : w6.heap[w.heap.size + 4]? = some (.cells (aE lb) 31 (0, 0))
  c : w6.heap[w.heap.size + 5]? = some (.cells (aE lc) 31 (0, 0))
theorem at_new {w : World} {o : Obj} {i : Nat} (h : i = w.heap.size) : (w.alloc o).heap[i]? = some o := by subst h; exact heap_alloc_new _ _
theorem at_old {w : World} {o p : Obj} {i : Nat} (h : w.heap[i]? = some p) : (w.alloc o).heap[i]? = some p := (heap_alloc_old w o (Array.getElem?_eq_some_iff.1 h).1).trans h
theorem wk6 (w : World) : Wk w (W6 w) := by
  unfold W6
  refine ⟨?_, by simp, ?_, ?_, ?_, ?_⟩
  · exact (((((((Below.refl w.heap.size w).alloc (Nat.le_refl _) _).alloc (by simp) _).alloc (by simp; omega) _).alloc (by simp; omega) _).alloc (by simp; omega) _).alloc (by simp; omega) _)
  · exact at_old (at_old (at_old (at_old (at_old (at_new rfl)))))
  · exact at_old (at_old (at_new (by simp)))
  · exact at_old (at_new (by simp))
  · exact at_new (by simp)
theorem oks_la : Oks la := fun e he => by
  simp [la] at he
  rcases he with rfl | rfl | rfl <;> exact ok_of (by decide)
theorem oks_lb : Oks lb := fun e he => by
  simp [lb] at he
  rcases he with rfl | rfl | rfl <;> exact ok_of (by decide)
theorem oks_lc : Oks lc := fun e he => by
  simp [lc] at he
  rcases he with rfl | rfl <;> exact ok_of (by decide)
theorem oks_l8 : Oks l8 := fun e he => by
  simp [l8] at he
  subst he
  exact ok_of (by decide)

set_option maxHeartbeats 1000000 in
theorem wakes_ok (w : World) (hk : TK w) : Calls Tryd.prog 8 #[] w fun ε w' => ε = .returned (.bool true) ∧ Below w.heap.size w w' := by
  have HK := Lib.hid hk
  clear hk
  have HW := Lib.hid (wk6 w)
  go_enter Tryd.func8, Tryd.ntmps8
  go_wp2_with fail
  change Code.wp Tryd.prog _ _ _ (W6 w)
  obtain ⟨w6, hw6⟩ : ∃ w6, W6 w = w6 := ⟨_, rfl⟩
  rw [hw6] at HW ⊢
  clear hw6
  obtain ⟨q0, q1, q2, q3, q4⟩ := blk5 HW.out.o1
  have hsz := HW.out.sz
  have hlt : w.heap.size < w6.heap.size := by omega
  have Ea := Lib.hid (ents_blk (l := la) HW.out.a rfl); have Eb := Lib.hid (ents_blk (l := lb) HW.out.b rfl); have Ec := Lib.hid (ents_blk (l := lc) HW.out.c rfl)
  have B6 := Lib.hid HW.out.be
  have hmk := mk8
  have HSZ := Lib.hid hsz
  clear hsz
  go_region_held3 (fun wv => wv.cell? ⟨w.heap.size, 0, none⟩ = some (.int .i8 one.k) ∧ wv.cell? ⟨w.heap.size, 1, none⟩ = some (.int .u64 one.wd) ∧ wv.cell? ⟨w.heap.size, 2, none⟩ = some (.int .u64 one.v) ∧ wv.cell? ⟨w.heap.size, 3, none⟩ = some (.int .i64 one.fr) ∧ wv.cell? ⟨w.heap.size, 4, none⟩ = some (.int .i64 one.fm)) (go_keep)
    (first | (go_at_call 13; refine (push_ok (some ⟨w6.heap.size, 0, none⟩) 8 l8 8 one _ rfl (by decide) (by decide) (fun h => nomatch h) (HK.out.below (B6.out.trans ((drew_alloc _ _).mono B6.out.size))) (ents_blk (at_new rfl) rfl) oks_l8 (ok_of (by decide))).mono ?_; intro ε w7 hp; obtain ⟨ao7, cap7, rfl, _, _, _, _, hb7⟩ := hp; have HS := Lib.hid (below_after hb7); clear hb7; have hold := oldc HS.out))
  all_goals
    have B7 := Lib.hid (B6.out.trans (HS.out.mono B6.out.size))
    have hpc : ((pushR l8 one).2 == 20) = true := by decide +kernel
    clear q0 q1 q2 q3 q4 hold hmk
    go_wp2_with fail
    refine (mayAt_ok (some ⟨w.heap.size + 3, 0, none⟩) 3 la 3 0 _ rfl (by decide) (by decide) (HK.out.below B7.out) (Ea.out.below HS.out) (oks_la)).mono ?_
    rw [show mayAt la 0 = true by decide +kernel]
    rintro ε wn ⟨rfl, hb⟩
    have B8 := Lib.hid (B7.out.trans (hb.mono B7.out.size)); have HS8 := Lib.hid (HS.out.trans (hb.mono HS.out.size))
    clear B7 HS hb
    have B7 := B8; have HS := HS8
    clear B8 HS8
    go_wp2_with fail
    refine (mayAt_ok (some ⟨w.heap.size + 3, 0, none⟩) 3 la 3 1 _ rfl (by decide) (by decide) (HK.out.below B7.out) (Ea.out.below HS.out) (oks_la)).mono ?_
    rw [show mayAt la 1 = true by decide +kernel]
    rintro ε wn ⟨rfl, hb⟩
    have B8 := Lib.hid (B7.out.trans (hb.mono B7.out.size)); have HS8 := Lib.hid (HS.out.trans (hb.mono HS.out.size))
    clear B7 HS hb
    have B7 := B8; have HS := HS8
    clear B8 HS8
    go_wp2_with fail
    refine (mayAt_ok (some ⟨w.heap.size + 3, 0, none⟩) 3 la 3 2 _ rfl (by decide) (by decide) (HK.out.below B7.out) (Ea.out.below HS.out) (oks_la)).mono ?_
    rw [show mayAt la 2 = false by decide +kernel]
    rintro ε wn ⟨rfl, hb⟩
    have B8 := Lib.hid (B7.out.trans (hb.mono B7.out.size)); have HS8 := Lib.hid (HS.out.trans (hb.mono HS.out.size))
    clear B7 HS hb
    have B7 := B8; have HS := HS8
    clear B8 HS8
    go_wp2_with fail
    refine (mayAt_ok (some ⟨w.heap.size + 4, 0, none⟩) 3 lb 3 0 _ rfl (by decide) (by decide) (HK.out.below B7.out) (Eb.out.below HS.out) (oks_lb)).mono ?_
    rw [show mayAt lb 0 = true by decide +kernel]
    rintro ε wn ⟨rfl, hb⟩
    have B8 := Lib.hid (B7.out.trans (hb.mono B7.out.size)); have HS8 := Lib.hid (HS.out.trans (hb.mono HS.out.size))
    clear B7 HS hb
    have B7 := B8; have HS := HS8
    clear B8 HS8
    go_wp2_with fail
    refine (mayAt_ok (some ⟨w.heap.size + 4, 0, none⟩) 3 lb 3 2 _ rfl (by decide) (by decide) (HK.out.below B7.out) (Eb.out.below HS.out) (oks_lb)).mono ?_
    rw [show mayAt lb 2 = false by decide +kernel]
    rintro ε wn ⟨rfl, hb⟩
    have B8 := Lib.hid (B7.out.trans (hb.mono B7.out.size)); have HS8 := Lib.hid (HS.out.trans (hb.mono HS.out.size))
    clear B7 HS hb
    have B7 := B8; have HS := HS8
    clear B8 HS8
    go_wp2_with fail
    refine (mayAt_ok (some ⟨w.heap.size + 5, 0, none⟩) 2 lc 2 1 _ rfl (by decide) (by decide) (HK.out.below B7.out) (Ec.out.below HS.out) (oks_lc)).mono ?_
    rw [show mayAt lc 1 = false by decide +kernel]
    rintro ε wn ⟨rfl, hb⟩
    have B8 := Lib.hid (B7.out.trans (hb.mono B7.out.size)); have HS8 := Lib.hid (HS.out.trans (hb.mono HS.out.size))
    clear B7 HS hb
    have B7 := B8; have HS := HS8
    clear B8 HS8
    go_wp2_with fail
    go_ret
    exact ⟨rfl, B7.out⟩
end Go.Proofs.YtdmcmpbappjdoaaDoor
