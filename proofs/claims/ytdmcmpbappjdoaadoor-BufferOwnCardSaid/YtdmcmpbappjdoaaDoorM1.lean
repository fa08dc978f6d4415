/- Layer 9: memory; put. -/
import Derived.Test.YtdmcmpbappjdoaaDoorD9
namespace Go.Proofs.YtdmcmpbappjdoaaDoor
open Go.ChangeShapes Go.WideShapes Go.ChangeAt Go.RowKit
set_option linter.unusedVariables false

/-- What an entry makes of memory. -/
def putM (e : Ent) (M : Nat → Int) : Nat → Int := fun i =>
  if e.k = 0 then (if (i : Int) = e.wd then e.v else M i)
  else if e.k = 2 then (if ((i / 512 : Nat) : Int) = e.fm then 0 else M i)
  else if e.k = 3 then (if ((i / 512 : Nat) : Int) = e.fm ∧ 0 ≤ e.fr ∧ e.fr < 4 then M (e.fr.toNat * 512 + i % 512) else M i)
  else M i
/-- Memory of 2048 words lies in a block. -/
def Ms (w : World) (g : Nat) (M : Nat → Int) : Prop := ∀ j, j < 2048 → w.cell? ⟨g, j, none⟩ = some (.int .u64 (M j))
theorem Ms.lt {w : World} {g : Nat} {M : Nat → Int} (h : Ms w g M) : g < w.heap.size := lt_of_cell (h 0 (by omega))
theorem Ms.below {w w' : World} {g : Nat} {M : Nat → Int} (h : Ms w g M) (hb : Below w.heap.size w w') : Ms w' g M := fun j hj => (hb.cell (p := ⟨g, j, none⟩) h.lt).trans (h j hj)
theorem Ms.congr {w : World} {g : Nat} {M M' : Nat → Int} (h : Ms w g M) (he : ∀ j, j < 2048 → M j = M' j) : Ms w g M' := fun j hj => (he j hj) ▸ h j hj
/-- .. of the call's own. -/
structure Mo (w : World) (g : Nat) (M : Nat → Int) : Prop where
  c : Ms w g M
  z : ∀ j, w.frozen? ⟨g, j, none⟩ = false
theorem Mo.set {w : World} {g : Nat} {M : Nat → Int} (h : Mo w g M) (k : Nat) (hk : k < 2048) (v : Int) : Mo (w.setCell ⟨g, k, none⟩ (.int .u64 v)) g (fun j => if j = k then v else M j) := by
  refine ⟨fun j hj => ?_, fun j => by rw [World.frozen?_setCell]; exact h.z j⟩
  by_cases hjk : j = k
  · subst hjk
    rw [if_pos rfl]
    exact World.cell?_setCell_same _ _ _ (h.c j hj)
  · rw [if_neg hjk, World.cell?_setCell_other _ _ _ _ (by intro he; injection he with _ h2 _; exact hjk h2.symm)]
    exact h.c j hj
def memL (M : Nat → Int) : List Value := (List.range 2048).map fun i => .int .u64 (M i)
theorem memL_get (M : Nat → Int) (j : Nat) (hj : j < 2048) : (memL M)[j]? = some (.int .u64 (M j)) := by simp [memL, hj]
theorem memL_len (M : Nat → Int) : (memL M).length = 2048 := by simp [memL]
theorem memL_one (M : Nat → Int) : ∀ u ∈ memL M, u.oneCell' = true := by
  intro u hu
  simp only [memL, List.mem_map] at hu
  obtain ⟨i, _, rfl⟩ := hu
  rfl
theorem Ms.news {w : World} {g : Nat} {M : Nat → Int} (h : Ms w g M) : ∀ j u, (memL M)[j]? = some u → w.cell? ((⟨g, 0, none⟩ : Addr).add j) = some u := by
  intro j u hu
  have hj : j < 2048 := by rw [← memL_len M]; exact (List.getElem?_eq_some_iff.1 hu).1
  rw [memL_get M j hj] at hu
  rw [add_at, Nat.zero_add, ← hu]
  exact h j hj
theorem own_mo {w : World} {base : Nat} {v : Value} {M : Nat → Int} (h : w.ownsRow base 28 1 v 2048 (memL M)) : ∃ g cap, v = .slice (some ⟨g, 0, none⟩) 2048 cap ∧ base ≤ g ∧ 2048 ≤ cap ∧ cap ≤ 9223372036854775807 ∧ Mo w g M := by
  rcases h.2 with ⟨rfl, hn⟩ | ⟨g, cap, cur, rfl, hb, hh, hle, hcap, hsz, htake⟩
  · cases hn
  · unfold maxLen at hcap
    refine ⟨g, cap, rfl, hb, hle, hcap, ⟨fun j hj => ?_, fun j => by simp [World.frozen?, hh]⟩⟩
    have := memL_get M j hj
    rw [← htake, List.getElem?_take, if_pos (by omega)] at this
    simpa [World.cell?, hh] using this
theorem Tryd.info28 : (Tryd.prog.info? 28).map (fun i => (i.zero, i.size, i.bytes)) = some (some (.int .u64 0), 1, 8) := by kernel_rfl

/-- The words below k as the entry makes them, the others as they were. -/
def mix (e : Ent) (M : Nat → Int) (k : Nat) : Nat → Int := fun j => if j < k then putM e M j else M j
theorem mix_zero (e : Ent) (M : Nat → Int) (j : Nat) : M j = mix e M 0 j := by unfold mix; rw [if_neg (by omega)]
theorem mix_yes {e : Ent} {M : Nat → Int} {k : Nat} {v : Int} (h : putM e M k = v) (j : Nat) : (if j = k then v else mix e M k j) = mix e M (k + 1) j := by
  unfold mix
  by_cases hj : j = k
  · subst hj; rw [if_pos rfl, if_pos (by omega), h]
  · rw [if_neg hj]
    have e : (j < k + 1) = (j < k) := by simp; omega
    simp only [e]
theorem mix_no {e : Ent} {M : Nat → Int} {k : Nat} (h : putM e M k = M k) (j : Nat) : mix e M k j = mix e M (k + 1) j := by
  unfold mix
  by_cases hj : j = k
  · subst hj; rw [if_neg (by omega), if_pos (by omega), h]
  · have e : (j < k + 1) = (j < k) := by simp; omega
    simp only [e]
theorem mix_end (e : Ent) (M : Nat → Int) (j : Nat) (hj : j < 2048) : mix e M 2048 j = putM e M j := by unfold mix; rw [if_pos hj]
/-- The frame of a round of put. -/
structure Pf (w : World) (g' : Nat) (e : Ent) (M : Nat → Int) (wr : World) : Prop where
  mo : Mo wr g' M
  bx : wr.heap[w.heap.size]? = some (.cells (rowE e) 31 (0, 0))
  be : Below w.heap.size w wr
theorem Pf.set {w : World} {g' : Nat} {e : Ent} {M : Nat → Int} {wr : World} (h : Pf w g' e M wr) (hg : w.heap.size < g') (k : Nat) (hk : k < 2048) (v : Int) : Pf w g' e (fun j => if j = k then v else M j) (wr.setCell ⟨g', k, none⟩ (.int .u64 v)) :=
  ⟨h.mo.set k hk v, (Below.heap_setCell _ _ _ _ (by simp; omega)).trans h.bx, h.be.setCell (by show w.heap.size ≤ g'; omega) _⟩
theorem Pf.congr {w : World} {g' : Nat} {e : Ent} {M M' : Nat → Int} {wr : World} (h : Pf w g' e M wr) (he : ∀ j, j < 2048 → M j = M' j) : Pf w g' e M' wr := ⟨⟨h.mo.c.congr he, h.mo.z⟩, h.bx, h.be⟩
def PutPost (w : World) (e : Ent) (M : Nat → Int) (ε : Ending) (w' : World) : Prop := ∃ g cap, ε = .returned (.slice (some ⟨g, 0, none⟩) 2048 cap) ∧ 2048 ≤ cap ∧ cap ≤ 9223372036854775807 ∧ Ms w' g (putM e M) ∧ Below w.heap.size w w'

set_option maxHeartbeats 2000000 in
set_option maxRecDepth 100000 in
theorem put_ok (g cap : Nat) (M : Nat → Int) (e : Ent) (w : World) (hm : Ms w g M) (ho : e.ok) :
    Calls Tryd.prog 9 #[.slice (some ⟨g, 0, none⟩) 2048 cap, e.agg] w (PutPost w e M) := by
  obtain ⟨i0, hi, hz0, hz1, hz2⟩ := info_parts Tryd.info28
  have HI := Lib.hid hi; have HZ0 := Lib.hid hz0; have HZ1 := Lib.hid hz1; have HZ2 := Lib.hid hz2
  have HM := Lib.hid hm; have HO := Lib.hid ho
  have BB := Lib.hid ((Below.refl w.heap.size w).alloc (Nat.le_refl _) (.cells (rowE e) 31 (0, 0)))
  have hg := hm.lt
  clear hi hz0 hz1 hz2 hm ho
  go_enter Tryd.func9, Tryd.ntmps9
  go_wp2_with (at_builtin; refine wpList_append_own _ rfl _ _ 27 rfl (w.heap.size + 1) 28 i0 _ 1 8 Tryd.underlying27 HI.out HZ0.out HZ1.out HZ2.out rfl (by decide) (.slice (some ⟨w.heap.size + 1, 0, none⟩) 0 0) 0 [] rfl ?c0 ⟨g, 0, none⟩ 2048 cap (memL M) rfl (memL_len M) ?c1 (memL_one M) (by unfold maxLen; omega) (by omega) ?c5 ?_)
  case c0 => exact ⟨rfl, .inr ⟨w.heap.size + 1, 0, #[], rfl, Nat.le_refl _, heap_alloc2_new _ _ _, Nat.le_refl _, by unfold maxLen; omega, rfl, rfl⟩⟩
  case c1 => exact (HM.out.below (BB.out.alloc (by simp) _)).news
  case c5 => simp
  intro v' w1 hown hgr _
  obtain ⟨g', cap', rfl, hgg, hc1, hc2, hmo⟩ := own_mo hown
  have B1 := Lib.hid ((BB.out.alloc (by simp) _).grown hgr (by simp; omega) (fun q hq => by simp [Value.ownBlock] at hq; omega))
  have HBX := Lib.hid (show w1.heap[w.heap.size]? = some (.cells (rowE e) 31 (0, 0)) from (hgr.block w.heap.size (by simp; omega) (by simp [Value.ownBlock])).trans (heap_alloc2_old _ _ _))
  have HP0 := Lib.hid (show Pf w g' e M w1 from ⟨hmo, HBX.out, B1.out⟩)
  have hgw : w.heap.size < g' := by omega
  have HC1 := Lib.hid hc1; have HC2 := Lib.hid hc2
  clear hown hgr hmo hc1 hc2
  go_wp2_with fail
  go_loopw [13] (fun i wr => ∃ q : Nat, q ≤ 2048 ∧ i = .int .i64 q ∧ Pf w g' e (mix e M q) wr) (fun i _ => 2048 - (intOf i).toNat)
  case atStart => exact ⟨0, by omega, rfl, HP0.out.congr (fun j _ => mix_zero e M j)⟩
  case round =>
    obtain ⟨q, hq, rfl, hp⟩ := hrel
    have HP := Lib.hid hp
    clear hp
    by_cases hq20 : q < 2048
    · obtain ⟨x0, x1, x2, x3, x4⟩ := blk5 HP.out.bx
      have y := HP.out.mo.c q hq20
      have z := HP.out.mo.z q
      have hlt : w.heap.size < wr.heap.size := lt_of_cell x0
      have hu : IntKind.u64.wrap (q : Int) = (q : Int) := by rw [IntKind.wrap_u64]; omega
      have hdv : ((q / 512 : Nat) : Int) = (q : Int) / 512 := by omega
      have HDV := Lib.hid hdv
      clear hdv
      by_cases hk0 : e.k = 0
      · have d0 : (e.k == 0) = true := by simpa using hk0
        have d2 : (e.k == 2) = false := by simp [hk0]
        have d3 : (e.k == 3) = false := by simp [hk0]
        cases hw : ((q : Int) == e.wd)
        · have PUT := Lib.hid (show putM e M q = M q by
            have : ¬ (q : Int) = e.wd := by simpa using hw
            simp [putM, hk0, this])
          clear hk0
          go_wp2_with fail
          go_roundw
          case rel => exact ⟨q + 1, by omega, by go_num, HP.out.congr (fun j _ => mix_no PUT.out j)⟩
          case measure => simp [intOf]; omega
        · have PUT := Lib.hid (show putM e M q = e.v by
            have : (q : Int) = e.wd := by simpa using hw
            simp [putM, hk0, this])
          clear hk0
          go_wp2_with fail
          go_roundw
          case rel => exact ⟨q + 1, by omega, by go_num, (HP.out.set hgw q hq20 e.v).congr (fun j _ => mix_yes PUT.out j)⟩
          case measure => simp [intOf]; omega
      · have d0 : (e.k == 0) = false := by simpa using hk0
        by_cases hk2 : e.k = 2
        · have d2 : (e.k == 2) = true := by simpa using hk2
          have d3 : (e.k == 3) = false := by simp [hk2]
          cases hw : ((q : Int) / 512 == e.fm)
          · have PUT := Lib.hid (show putM e M q = M q by
              have : ¬ ((q / 512 : Nat) : Int) = e.fm := by rw [HDV.out]; simpa using hw
              unfold putM
              rw [if_neg hk0, if_pos hk2, if_neg this])
            clear hk0 hk2
            go_wp2_with fail
            go_roundw
            case rel => exact ⟨q + 1, by omega, by go_num, HP.out.congr (fun j _ => mix_no PUT.out j)⟩
            case measure => simp [intOf]; omega
          · have PUT := Lib.hid (show putM e M q = 0 by
              have : ((q / 512 : Nat) : Int) = e.fm := by rw [HDV.out]; simpa using hw
              unfold putM
              rw [if_neg hk0, if_pos hk2, if_pos this])
            clear hk0 hk2
            go_wp2_with fail
            go_roundw
            case rel => exact ⟨q + 1, by omega, by go_num, (HP.out.set hgw q hq20 0).congr (fun j _ => mix_yes PUT.out j)⟩
            case measure => simp [intOf]; omega
        · have d2 : (e.k == 2) = false := by simpa using hk2
          by_cases hk3 : e.k = 3
          · have d3 : (e.k == 3) = true := by simpa using hk3
            cases hw : ((q : Int) / 512 == e.fm)
            · have PUT := Lib.hid (show putM e M q = M q by
                have : ¬ ((q / 512 : Nat) : Int) = e.fm := by rw [HDV.out]; simpa using hw
                unfold putM
                rw [if_neg hk0, if_neg hk2, if_pos hk3, if_neg (fun x => this x.1)])
              clear hk0 hk2 hk3
              go_wp2_with fail
              go_roundw
              case rel => exact ⟨q + 1, by omega, by go_num, HP.out.congr (fun j _ => mix_no PUT.out j)⟩
              case measure => simp [intOf]; omega
            · have hfm : ((q / 512 : Nat) : Int) = e.fm := by rw [HDV.out]; simpa using hw
              by_cases hf0 : 0 ≤ e.fr
              · have f0 : decide (0 ≤ e.fr) = true := by simpa using hf0
                by_cases hf4 : e.fr < 4
                · have f4 : decide (e.fr < 4) = true := by simpa using hf4
                  have hoff : (e.fr * 512 + (q : Int) % 512).toNat = e.fr.toNat * 512 + q % 512 := by omega
                  have yy := (HM.out.below HP.out.be) (e.fr.toNat * 512 + q % 512) (by omega)
                  have PUT0 : putM e M q = M (e.fr.toNat * 512 + q % 512) := by
                    unfold putM
                    rw [if_neg hk0, if_neg hk2, if_pos hk3, if_pos ⟨hfm, hf0, hf4⟩]
                  rw [← hoff] at yy PUT0
                  have PUT := Lib.hid PUT0
                  clear hk0 hk2 hk3 hfm hoff PUT0
                  go_wp2_with fail
                  go_roundw
                  case rel => exact ⟨q + 1, by omega, by go_num, (HP.out.set hgw q hq20 _).congr (fun j _ => mix_yes PUT.out j)⟩
                  case measure => simp [intOf]; omega
                · have f4 : decide (e.fr < 4) = false := by simpa using hf4
                  have PUT := Lib.hid (show putM e M q = M q by
                    unfold putM
                    rw [if_neg hk0, if_neg hk2, if_pos hk3, if_neg (fun x => hf4 x.2.2)])
                  clear hk0 hk2 hk3 hfm
                  go_wp2_with fail
                  go_roundw
                  case rel => exact ⟨q + 1, by omega, by go_num, HP.out.congr (fun j _ => mix_no PUT.out j)⟩
                  case measure => simp [intOf]; omega
              · have f0 : decide (0 ≤ e.fr) = false := by simpa using hf0
                have PUT := Lib.hid (show putM e M q = M q by
                  unfold putM
                  rw [if_neg hk0, if_neg hk2, if_pos hk3, if_neg (fun x => hf0 x.2.1)])
                clear hk0 hk2 hk3 hfm
                go_wp2_with fail
                go_roundw
                case rel => exact ⟨q + 1, by omega, by go_num, HP.out.congr (fun j _ => mix_no PUT.out j)⟩
                case measure => simp [intOf]; omega
          · have d3 : (e.k == 3) = false := by simpa using hk3
            have PUT := Lib.hid (show putM e M q = M q by
              unfold putM
              rw [if_neg hk0, if_neg hk2, if_neg hk3])
            clear hk0 hk2 hk3
            go_wp2_with fail
            go_roundw
            case rel => exact ⟨q + 1, by omega, by go_num, HP.out.congr (fun j _ => mix_no PUT.out j)⟩
            case measure => simp [intOf]; omega
    · obtain rfl : q = 2048 := by omega
      go_wp2_with fail
      go_ret
      exact ⟨g', cap', rfl, HC1.out, HC2.out, HP.out.mo.c.congr (fun j hj => mix_end e M j hj), HP.out.be⟩
end Go.Proofs.YtdmcmpbappjdoaaDoor
