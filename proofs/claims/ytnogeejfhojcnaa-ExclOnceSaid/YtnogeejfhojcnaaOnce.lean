/- Statement ExclOnce of layer 10: the law returns true at every input, and its argument reads as before. No conditions. -/
import Derived.Test.YtnogeejfhojcnaaA4
import Derived.Test.YtnogeejfhojcnaaPost
namespace Go.Proofs.Ytnogeejfhojcnaa
open Go.ChangeShapes Go.WideShapes Go.ChangeAt Go.RowKit

def arr9 (t : TypeId) (F : Nat → Value) : Obj := .cells #[F 0, F 1, F 2, F 3, F 4, F 5, F 6, F 7, F 8] t (0, 0)
theorem arr9_cell {w : World} {b : Nat} {t : TypeId} {F : Nat → Value} (h : w.heap[b]? = some (arr9 t F)) (k : Nat) (hk : k < 9) :
    w.cell? ⟨b, k, none⟩ = some (F k) := by
  have : k = 0 ∨ k = 1 ∨ k = 2 ∨ k = 3 ∨ k = 4 ∨ k = 5 ∨ k = 6 ∨ k = 7 ∨ k = 8 := by omega
  rcases this with rfl | rfl | rfl | rfl | rfl | rfl | rfl | rfl | rfl <;> simp [World.cell?, h, arr9]
theorem arr9_free {w : World} {b : Nat} {t : TypeId} {F : Nat → Value} (h : w.heap[b]? = some (arr9 t F)) (o : Nat) :
    w.frozen? ⟨b, o, none⟩ = false := by
  simp [World.frozen?, h, arr9]
theorem arr9_set {w : World} {b : Nat} {t : TypeId} {F : Nat → Value} (h : w.heap[b]? = some (arr9 t F)) (k : Nat) (hk : k < 9) (v : Value) :
    (w.setCell ⟨b, k, none⟩ v).heap[b]? = some (arr9 t (fun j => if j = k then v else F j)) := by
  have hlt := lt_of_block h
  have h' : w.heap[b] = arr9 t F := by simpa [Array.getElem?_eq_getElem hlt] using h
  show (w.heap.modify b _)[b]? = _
  rw [Array.getElem?_eq_getElem (by simpa using hlt), Array.getElem_modify_self, h']
  have : k = 0 ∨ k = 1 ∨ k = 2 ∨ k = 3 ∨ k = 4 ∨ k = 5 ∨ k = 6 ∨ k = 7 ∨ k = 8 := by omega
  rcases this with rfl | rfl | rfl | rfl | rfl | rfl | rfl | rfl | rfl <;> simp [arr9]

theorem arr9_put {α : Type} (f : α → Value) {w : World} {b : Nat} {t : TypeId} {F : Nat → α} (h : w.heap[b]? = some (arr9 t fun j => f (F j))) (k : Nat) (hk : k < 9) (v : α) :
    (w.setCell ⟨b, k, none⟩ (f v)).heap[b]? = some (arr9 t fun j => f (if j = k then v else F j)) := by
  rw [arr9_set h k hk]
  congr 2
  funext j
  split <;> rfl

theorem tmod_bd (x : Int) (k : Int) (hk : 0 < k) : -k < x.tmod k ∧ x.tmod k < k :=
  ⟨Int.lt_tmod_of_pos x hk, Int.tmod_lt_of_pos x hk⟩

/-- Another block of another type is written: the monitors stay. -/
theorem Mon.setOther {w : World} {b d : Nat} {n : Int} {m : Nat → Option Int} (h : Mon w b n m) {t : TypeId} {F : Nat → Value} (hd : w.heap[d]? = some (arr9 t F)) (ht : t ≠ 55) (ht' : t ≠ 22) (o : Nat) (v : Value) : Mon (w.setCell ⟨d, o, Option.none⟩ v) b n m :=
  h.kept fun i cs t' hi ht2 => Below.heap_setCell _ _ _ _ (by
    rintro rfl
    rw [hd] at hi
    simp only [arr9, Option.some.injEq, Obj.cells.injEq] at hi
    rcases ht2 with rfl | rfl
    · exact ht hi.2.1
    · exact ht' hi.2.1)

theorem lt_of_cell {w : World} {a : Addr} {v : Value} (h : w.cell? a = some v) : a.block < w.heap.size := by
  rcases Nat.lt_or_ge a.block w.heap.size with h' | h'
  · exact h'
  · simp [World.cell?, Array.getElem?_eq_none h'] at h

theorem once_walk (ao : Option Addr) (len cap : Nat) (z : Nat → Int) (w : World) (_hlen : len ≤ cap) (hcap : cap ≤ maxLen)
    (hz : ∀ k, k < len → ∃ b off, ao = some ⟨b, off, none⟩ ∧ b < w.heap.size ∧ w.cell? ⟨b, off + k, none⟩ = some (.int .i64 (z k))) :
    Calls Try.prog 4 #[.slice ao len cap] w fun e w' => e = .returned (.bool true) ∧ Below w.heap.size w w' := by
  have _hc2 : cap ≤ 9223372036854775807 := hcap
  clear hcap
  have HZ := Lib.hid hz
  clear hz
  by_cases h300 : 300 < len
  · have hd : decide ((300 : Int) < (len : Int)) = true := by simp; omega
    go_enter Try.func4, Try.ntmps4
    go_wp2_with fail
    refine (wakes_ok _).mono ?_
    rintro e w8 ⟨rfl, hb8⟩
    have B8 := Lib.hid hb8
    clear hb8
    go_wp2_with fail
    go_ret
    exact ⟨rfl, B8.out⟩
  · have hd : decide ((300 : Int) < (len : Int)) = false := by simp; omega
    go_enter Try.func4, Try.ntmps4
    go_wp2_with fail
    refine (new_mon 8 _ (by omega) (by omega)).mono ?_
    rintro e w1 ⟨b, rfl, hm, hb, hB, hlt⟩
    have M1 := Lib.hid hm; have HB := Lib.hid hb; have B1 := Lib.hid hB
    clear hm hb hB
    go_wp2_with fail
    have hbh : ((w1.alloc (arr9 33 fun _ => .bool false)).alloc (arr9 34 fun _ => .int .i64 0)).heap[w1.heap.size]? = some (arr9 33 fun _ => .bool false) := by
      rw [Below.heap_alloc _ _ _ (by simp), heap_alloc_new]
    have hbr : ((w1.alloc (arr9 33 fun _ => .bool false)).alloc (arr9 34 fun _ => .int .i64 0)).heap[w1.heap.size + 1]? = some (arr9 34 fun _ => .int .i64 0) := by
      have := heap_alloc_new (w1.alloc (arr9 33 fun _ => .bool false)) (arr9 34 fun _ => .int .i64 0)
      simpa using this
    have Mb := (M1.out.alloc (arr9 33 fun _ => .bool false)).alloc (arr9 34 fun _ => .int .i64 0)
    have HBH := Lib.hid hbh; have HBR := Lib.hid hbr; have MB := Lib.hid Mb
    clear hbh hbr Mb
    go_loopw [7, 8, 9] (fun t u i wr => ∃ (k cnt : Nat) (m : Nat → Option Int) (hs : Nat → Bool) (rd : Nat → Int), k ≤ len ∧ cnt ≤ k ∧ i = .int .i64 k ∧ t = .int .i64 cnt ∧ u = .int .i64 cnt ∧ Mon wr b 8 m ∧ wr.heap[w1.heap.size]? = some (arr9 33 fun j => .bool (hs j)) ∧ wr.heap[w1.heap.size + 1]? = some (arr9 34 fun j => .int .i64 (rd j)) ∧ (∀ j, j < 8 → m j = some 40 → rd (j + 1) = cnt) ∧ Below w.heap.size w wr) (fun _ _ i _ => len - (intOf i).toNat)
    case atStart => exact ⟨0, 0, _, fun _ => false, fun _ => 0, by omega, by omega, rfl, rfl, rfl, MB.out, HBH.out, HBR.out, by simp, (B1.out.alloc B1.out.size _).alloc (by have := B1.out.size; simp; omega) _⟩
    case round =>
      obtain ⟨k, cnt, m, hs, rd, hk, hcnt, rfl, rfl, rfl, hm, hh, hr, hinv, hbe⟩ := hrel
      have HM := Lib.hid hm; have HH := Lib.hid hh; have HR := Lib.hid hr; have HI := Lib.hid hinv; have HE := Lib.hid hbe
      clear hm hh hr hinv hbe
      by_cases hlk : k < len
      · obtain ⟨ba, off, rfl, hba, hcell⟩ := HZ.out k hlk
        have hcell2 : wr.cell? ⟨ba, off + k, none⟩ = some (.int .i64 (z k)) := (HE.out.cell (p := ⟨ba, off + k, none⟩) hba).trans hcell
        clear hcell
        have t2 := tmod_bd (z k) 8 (by omega)
        have bc : 1 ≤ 1 + (z k).tmod 8 % 8 ∧ 1 + (z k).tmod 8 % 8 ≤ 8 := by omega
        have hce : ∃ c, 1 + (z k).tmod 8 % 8 = c := ⟨_, rfl⟩
        obtain ⟨c, hce⟩ := hce
        rw [hce] at bc
        obtain ⟨bc1, bc2⟩ := bc
        have hhc := arr9_cell HH.out c.toNat (by omega)
        have hfc := arr9_free HH.out c.toNat
        have hrc := arr9_cell HR.out c.toNat (by omega)
        have hfr := arr9_free HR.out c.toNat
        cases hsc : hs c.toNat
        · have HS := Lib.hid hsc
          rw [hsc] at hhc
          clear hsc
          go_wp2_with fail
          refine (set_ok b 8 c 40 m _ HM.out bc1 bc2 (by omega) (by omega) (by omega)).mono ?_
          rintro e w2 ⟨rfl, hm, hg⟩
          have hh2 := (hg.block _ (lt_of_block HH.out) (by have := HB.out; simp; omega)).trans HH.out
          have hr2 := (hg.block _ (lt_of_block HR.out) (by have := HB.out; simp; omega)).trans HR.out
          have M2 := Lib.hid hm; have B2 := Lib.hid (below_only HE.out hg (by have := HB.out; omega) HE.out.size)
          have hhc2 := arr9_cell hh2 c.toNat (by omega)
          have hfc2 := arr9_free hh2 c.toNat
          have hrc2 := arr9_cell hr2 c.toNat (by omega)
          have hfr2 := arr9_free hr2 c.toNat
          have HH2 := Lib.hid hh2; have HR2 := Lib.hid hr2
          clear hm hg hh2 hr2 hhc hrc hfc hfr
          go_wp2_with fail
          go_roundw
          case rel =>
            have b1 := HB.out
            have b2 := B1.out.size
            have b3 := B2.out.size
            have hr3 := arr9_put (Value.int .i64) HR2.out c.toNat (by omega) cnt
            have hh3 := arr9_put Value.bool (w := w2.setCell ⟨w1.heap.size + 1, c.toNat, none⟩ (.int .i64 cnt)) ((Below.heap_setCell _ _ _ _ (by simp)).trans HH2.out) c.toNat (by omega) true
            refine ⟨k + 1, cnt, updm m (c.toNat - 1) (some 40), (fun j => if j = c.toNat then true else hs j), (fun j => if j = c.toNat then (cnt : Int) else rd j), by omega, by omega, by go_num, rfl, rfl,
              (M2.out.setOther HR2.out (by decide) (by decide) _ _).setOther ((Below.heap_setCell _ _ _ _ (by simp)).trans HH2.out) (by decide) (by decide) _ _, ?_, ?_, ?_, (B2.out.setCell (by show w.heap.size ≤ w1.heap.size + 1; omega) _).setCell (by show w.heap.size ≤ w1.heap.size; omega) _⟩
            · exact hh3
            · rw [Below.heap_setCell _ _ _ _ (by simp)]; exact hr3
            · intro j hj hjm
              by_cases hjc : j + 1 = c.toNat
              · simp [hjc]
              · simp only [hjc, if_false]
                refine HI.out j hj ?_
                simp only [updm] at hjm
                rwa [if_neg (by omega)] at hjm
          case measure => simp [intOf]; omega
        · have HS := Lib.hid hsc
          rw [hsc] at hhc
          clear hsc
          go_wp2_with fail
          have hh2 := arr9_put Value.bool HH.out c.toNat (by omega) false
          have hr2 := (Below.heap_setCell wr ⟨w1.heap.size, c.toNat, none⟩ (.bool false) (w1.heap.size + 1) (by simp)).trans HR.out
          have M2 := Lib.hid (HM.out.setOther HH.out (by decide) (by decide) c.toNat (.bool false))
          have B2 := Lib.hid (HE.out.setCell (p := ⟨w1.heap.size, c.toNat, none⟩) (by have := HB.out; have := B1.out.size; exact B1.out.size) (.bool false))
          have HH2 := Lib.hid hh2; have HR2 := Lib.hid hr2
          clear hh2 hr2
          generalize wr.setCell ⟨w1.heap.size, c.toNat, none⟩ (.bool false) = w2 at *
          refine (is_ok b 8 c 40 m _ M2.out bc1 bc2 (by omega)).mono ?_
          rintro e w3 ⟨rfl, rfl⟩
          cases his : isB (m (c.toNat - 1)) 40
          · clear his
            go_wp2_with fail
            go_roundw
            case rel => exact ⟨k + 1, cnt, m, _, rd, by omega, by omega, by go_num, rfl, rfl, M2.out, HH2.out, HR2.out, HI.out, B2.out⟩
            case measure => simp [intOf]; omega
          · have hrd : rd c.toNat = cnt := by
              have h1 : m (c.toNat - 1) = some 40 := by simpa [isB] using his
              have h2 := HI.out (c.toNat - 1) (by omega) h1
              rwa [show c.toNat - 1 + 1 = c.toNat by omega] at h2
            clear his
            have hrc2 := arr9_cell HR2.out c.toNat (by omega)
            rw [hrd] at hrc2
            have HRD := Lib.hid hrd
            clear hrd hrc hhc hfc hfr
            go_wp2_with fail
            refine (wrote_ok b 8 c 40 m _ M2.out bc1 bc2 (by omega)).mono ?_
            rintro e w3 ⟨rfl, hm, hg⟩
            have M3 := Lib.hid hm; have B3 := Lib.hid (below_only B2.out hg (by have := HB.out; omega) B2.out.size)
            have HH3 := Lib.hid ((hg.block _ (lt_of_block HH2.out) (by have := HB.out; simp; omega)).trans HH2.out)
            have HR3 := Lib.hid ((hg.block _ (lt_of_block HR2.out) (by have := HB.out; simp; omega)).trans HR2.out)
            clear hm hg
            go_wp2_with fail
            refine (clear_ok b 8 c _ _ M3.out bc1 bc2 (by omega)).mono ?_
            rintro e w4 ⟨rfl, hm, hg⟩
            have M4 := Lib.hid hm; have B4 := Lib.hid (below_only B3.out hg (by have := HB.out; omega) B3.out.size)
            have HH4 := Lib.hid ((hg.block _ (lt_of_block HH3.out) (by have := HB.out; simp; omega)).trans HH3.out)
            have HR4 := Lib.hid ((hg.block _ (lt_of_block HR3.out) (by have := HB.out; simp; omega)).trans HR3.out)
            have hrc4 := arr9_cell HR4.out c.toNat (by omega)
            rw [HRD.out] at hrc4
            clear hm hg hrc2
            go_wp2_with fail
            go_roundw
            case rel =>
              refine ⟨k + 1, cnt + 1, _, _, rd, by omega, by omega, by go_num, by go_num, by go_num, M4.out, HH4.out, HR4.out, ?_, B4.out⟩
              intro j hj hjm
              exfalso
              by_cases hjc : j = c.toNat - 1
              · simp [updm, hjc] at hjm
              · have h1 : (j : Int) ≠ c - 1 := by omega
                simp only [updm, hjc, if_false, lose, h1, ne_eq, not_false_eq_true, true_and] at hjm
                by_cases hm40 : m j = some 40
                · simp [hm40] at hjm
                · split at hjm
                  · simp at hjm
                  · exact hm40 hjm
            case measure => simp [intOf]; omega
      · go_wp2_with fail
        refine (wakes_ok _).mono ?_
        rintro e w8 ⟨rfl, hb8⟩
        have B8 := Lib.hid hb8
        clear hb8
        go_wp2_with fail
        go_ret
        exact ⟨rfl, HE.out.trans (B8.out.mono HE.out.size)⟩

namespace exclOnce
theorem laid : laidOutB Try.prog = true := by kernel_rfl
theorem own : ownKnob Try.prog.godebug = none := by kernel_rfl
theorem cells3 : Try.prog.cellsOf 3 = 1 := by kernel_rfl
theorem lifted (os : Os) (started : os.Started) (H : Type) (enc : TypeId × Value → H) :
    ReturnsInHanded {} Try.checked os 4 .any (Rows.exclOnceSpec.pre6 enc Try.prog Try.f4 Rows.exclOnceRow.domain false) (Rows.exclOnceSpec.post enc Try.prog Try.f4 false true false false) := by
  refine returnsInHanded_of_change (C := Try.checked) own started (by kernel_rfl) Try.func4
    (ChangeSpec.witness6 (enc := enc) (C := Try.checked) false ⟨#[], #[.slice none 0 0], []⟩ 8 (by kernel_rfl) (by kernel_rfl) (by kernel_rfl) (by kernel_rfl)) ?_
  intro W base args ds gs before hval0 hW hcnd _
  have hval : ∀ (j : Nat) t v, Try.f4.params[j]? = some t → args[j]? = some v → Value.okWide Try.prog W .any base t v := hval0
  have hW' := hW
  obtain ⟨p, q, hA0, hV, rfl, hfz, hnd⟩ := hW
  have hA : DataW.TrodAll enc Try.prog W 0 (fun _ => true) true Try.f4.params.toList args.toList ds p := hA0
  rw [Try.params4] at hA hval
  obtain ⟨v0, vs0, d0, ds0, p0, q0, hargs, rfl, rfl, h0, r0⟩ := trodAll_cons hA
  obtain ⟨rfl, rfl, rfl⟩ := trodAll_nil r0
  obtain rfl : args = #[v0] := by cases args; simp_all
  obtain ⟨rfl, rfl⟩ := trodVars_none hV
  obtain ⟨ao, len, cap, rfl⟩ := okWide_slice Try.underlying32 (hval 0 32 v0 rfl rfl)
  have fin : ∀ z : Nat → Int, len ≤ cap → cap ≤ maxLen → (∀ k, k < len → ∃ b off, ao = some ⟨b, off, none⟩ ∧ b < W.heap.size ∧ W.cell? ⟨b, off + k, none⟩ = some (.int .i64 (z k))) →
      Calls Try.prog 4 #[.slice ao len cap] W fun e W' => ∃ v, e = .returned v ∧ Rows.exclOnceSpec.post enc Try.prog Try.f4 false true false false W #[.slice ao len cap] v W' := fun z h1 h2 h3 =>
    (once_walk ao len cap z W h1 h2 h3).mono fun e W' ⟨he, hg⟩ => ⟨_, he, law_post laid hW' rfl (by decide +kernel) rfl rfl Try.underlying4 hg⟩
  obtain ⟨fuel, hf⟩ := h0
  rcases open_ints Try.underlying32 Try.underlying3 cells3 hf with ⟨hcs, hx⟩ | ⟨a, len', cap', zs, hcs, _, hl, hm, hz, hx, hcell, hwz⟩
  · simp [Value.cells] at hcs
    obtain ⟨rfl, rfl, rfl⟩ := hcs
    exact fin (fun _ => 0) (Nat.le_refl _) (Nat.zero_le _) (fun k hk => absurd hk (Nat.not_lt_zero _))
  · simp [Value.cells] at hcs
    obtain ⟨rfl, rfl, rfl⟩ := hcs
    refine fin (fun k => zs.getD k 0) hl hm (fun k hk => ?_)
    have hzl : zs.length = cap := by simpa using hz
    obtain ⟨b, off, rfl, hc⟩ := ints_at hcell (by omega)
    have := hc k (by omega)
    exact ⟨b, off, rfl, lt_of_cell this, this⟩

theorem over : Rows.exclOnceRow.holds Try.pinned (OpenSpec.ofChange Rows.exclOnceSpec) :=
  OpenClaim.holds_of_wide 4 Try.f4 rfl rfl rfl rfl rfl rfl rfl ⟨rfl, rfl, rfl, rfl, rfl⟩ rfl rfl rfl rfl rfl (by kernel_rfl) Try.func4 (by kernel_rfl)
    (of_decide_eq_true (by kernel_rfl)) (by unfold Func.isWrapper; first | (rw [if_pos (by decide +kernel)]; kernel_rfl) | (rw [if_neg (by decide +kernel)]; exact ⟨rfl, rfl⟩))
    (fun os started H enc _ => lifted os started H enc)
end exclOnce

/-- THE STATEMENT. -/
theorem exclOnce_proved : Rows.ExclOnceSaid := exclOnce.over
#print axioms exclOnce_proved
end Go.Proofs.Ytnogeejfhojcnaa
