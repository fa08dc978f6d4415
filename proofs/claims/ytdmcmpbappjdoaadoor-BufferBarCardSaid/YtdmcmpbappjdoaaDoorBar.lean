/- Statement BufferBar of layer 9: the law returns true at every input, and every argument reads as before. The package variable kinds reads as its initialiser lays it (tied to the program's text). -/
import Derived.Test.YtdmcmpbappjdoaaDoorP2
import Derived.Test.YtdmcmpbappjdoaaDoorShape
import Derived.Test.YtdmcmpbappjdoaaDoorCards
import Derived.Test.YtdmcmpbappjdoaaDoorTie
namespace Go.Proofs.YtdmcmpbappjdoaaDoor
open Go.ChangeShapes Go.WideShapes Go.ChangeAt Go.RowKit
set_option linter.unusedVariables false

def z2k : Array Value := madeCells #[.int .u64 0] 2048
theorem z2k_at (j : Nat) (hj : j < 2048) : z2k[j]? = some (.int .u64 0) := by
  simp [z2k, madeCells, hj, Nat.mod_one]
theorem mk2k (w : World) : (Instr.makeSlice 27 (.int .i64 2048) (.int .i64 2048)).run Tryd.prog w = .ok (.slice (some ⟨w.heap.size, 0, none⟩) 2048 2048) (w.alloc (.cells z2k 28)) := by
  obtain ⟨i0, hi, hz0, hz1, hz2⟩ := info_parts Tryd.info28
  have h := run_makeSlice (P := Tryd.prog) w 27 28 i0 (.int .u64 0) Tryd.underlying27 hi hz0 .i64 .i64 2048 2048 (by omega) (by omega) (by rw [hz1]; omega) (by rw [hz2]; omega) (by omega)
  rw [h, hz1]
  simp only [z2k, Nat.mul_one, Value.cells]
  rfl
theorem ms_new (w : World) : Ms (w.alloc (.cells z2k 28)) w.heap.size (fun _ => 0) := fun j hj => by
  rw [cell_of_row _ _ j z2k 28 (0, 0) (heap_alloc_new w (.cells z2k 28))]
  exact z2k_at j hj

set_option maxHeartbeats 4000000 in
set_option maxRecDepth 100000 in
theorem bar_walk (ao : Option Addr) (cap : Nat) (l : List Ent) (n : Nat) (word : Int) (w : World) (hn : n = l.length) (hcap : n ≤ cap) (hcap2 : cap ≤ 9223372036854775807) (h0 : 0 ≤ word) (h1 : word ≤ 18446744073709551615) (hk : TK w) (he : Ents w ao l) (ho : Oks l) :
    Calls Tryd.prog 5 #[.slice ao n cap, .int .u64 word] w fun ε w' => ε = .returned (.bool true) ∧ Below w.heap.size w w' := by
  have HN := Lib.hid hn; have HK := Lib.hid hk; have HE := Lib.hid he; have HO := Lib.hid ho
  have HCAP2 := Lib.hid hcap2; have HW1 := Lib.hid h1
  clear hk he ho hn
  go_enter Tryd.func5, Tryd.ntmps5
  go_wp2_with fail
  refine (check_ok ao cap l n _ HN.out (by omega) HK.out HE.out HO.out).mono ?_
  rintro ε w1 ⟨rfl, hb1⟩
  have B1 := Lib.hid hb1
  clear hb1
  cases hch : checkB l
  · have hcc : (cc false != 0) = true := rfl
    go_wp2_with fail
    refine (wakes_ok _ (HK.out.below B1.out)).mono ?_
    rintro ε w9 ⟨rfl, hb9⟩
    have B9 := Lib.hid (B1.out.trans (hb9.mono B1.out.size))
    clear hb9
    go_wp2_with fail
    go_ret
    exact ⟨rfl, B9.out⟩
  · have hcc : (cc true != 0) = false := rfl
    have HCH := Lib.hid hch
    have hn8 : n ≤ 8 := by have h := HCH.out; simp [checkB] at h; have := HN.out; omega
    clear hch
    by_cases hw : 2048 ≤ word
    · have hd : decide (2048 ≤ word) = true := by simpa using hw
      go_wp2_with fail
      refine (wakes_ok _ (HK.out.below B1.out)).mono ?_
      rintro ε w9 ⟨rfl, hb9⟩
      have B9 := Lib.hid (B1.out.trans (hb9.mono B1.out.size))
      clear hb9
      go_wp2_with fail
      go_ret
      exact ⟨rfl, B9.out⟩
    · have hd : decide (2048 ≤ word) = false := by simpa using hw
      obtain ⟨W, rfl⟩ : ∃ W : Nat, word = W := ⟨word.toNat, by omega⟩
      have hW : W < 2048 := by omega
      have hmk := mk2k w1
      clear hcap2 h1 hw
      go_wp2_with fail
      clear hmk hd
      have HM0 := Lib.hid (ms_new w1)
      have B2 := Lib.hid (B1.out.alloc B1.out.size (.cells z2k 28))
      go_loopw [5, 6, 26] (fun s5 s6 i wr => ∃ (k c g cm : Nat), k ≤ n ∧ i = .int .i64 k ∧ c ≤ k ∧ s5 = .int .i64 c ∧ s6 = .slice (some ⟨g, 0, none⟩) 2048 cm ∧ (0 < c → ∃ j, j < k ∧ isBar (nt l j) = true) ∧ (∀ j, j < k → (nt l j).k ≠ 3) ∧ Ms wr g (memK l (fun _ => 0) k) ∧ Below w.heap.size w wr) (fun _ _ i _ => 8 - (intOf i).toNat)
      case atStart => exact ⟨0, 0, _, 2048, by omega, rfl, by omega, rfl, rfl, fun h => by omega, fun j hj => by omega, HM0.out, B2.out⟩
      case round =>
        obtain ⟨k, c, g, cm, hkn, rfl, hck, rfl, rfl, hbar, hcopy, hms, hbe⟩ := hrel
        have HBAR := Lib.hid hbar; have HCP := Lib.hid hcopy; have HMS := Lib.hid hms; have HBE := Lib.hid hbe
        clear hbar hcopy hms hbe HM0 B2
        by_cases hk : k < n
        · obtain ⟨b, off, rfl, x⟩ := (HE.out.below HBE.out) k (by have := HN.out; omega)
          obtain ⟨x0, x1, x2, x3, x4⟩ := x
          have HOK := Lib.hid (HO.out.at (i := k) (by have := HN.out; omega))
          have BA := Lib.hid (HBE.out.alloc HBE.out.size (.cells (rowE (nt l k)) 31 (0, 0)))
          have HG := Lib.hid (show (wr.alloc (.cells (rowE (nt l k)) 31 (0, 0))).heap[wr.heap.size]? = some (.cells (rowE (nt l k)) 31 (0, 0)) from heap_alloc_new _ _)
          have HMA := Lib.hid (HMS.out.below ((Below.refl _ _).alloc (Nat.le_refl _) (.cells (rowE (nt l k)) 31 (0, 0))))
          cases hb : ((nt l k).k == 1)
          · have HNB := Lib.hid hb
            by_cases hc0 : 0 < c
            · have HMAY := Lib.hid (show mayAt l k = false by
                obtain ⟨j, h1, h2⟩ := HBAR.out hc0
                exact bar_may (by omega) h2)
              cases h3 : ((nt l k).k == 3)
              · have H3 := Lib.hid (show (nt l k).k ≠ 3 by simpa using h3)
                go_wp2_with fail
                refine (mayAt_ok (some ⟨b, off, none⟩) cap l n k _ HN.out hcap HCAP2.out (HK.out.below BA.out) (HE.out.below BA.out) HO.out).mono ?_
                rw [HMAY.out]
                rintro ε w3 ⟨rfl, hb3⟩
                have B3 := Lib.hid (BA.out.trans (hb3.mono (by have := HBE.out.size; simp; omega)))
                have HG3 := Lib.hid (show w3.heap[wr.heap.size]? = some (.cells (rowE (nt l k)) 31 (0, 0)) from (hb3.block wr.heap.size (by simp)).trans HG.out)
                have HMS3 := Lib.hid (HMA.out.below hb3)
                clear hb3
                obtain ⟨q0, q1, q2, q3, q4⟩ := blk5 HG3.out
                go_wp2_with fail
                refine (put_ok g cm (memK l (fun _ => 0) k) (nt l k) _ HMS3.out HOK.out).mono ?_
                intro ε w4 hp
                obtain ⟨g4, c4, rfl, _, _, hms4, hb4⟩ := hp
                have B4 := Lib.hid (B3.out.trans (hb4.mono B3.out.size))
                have HMS4 := Lib.hid hms4
                clear hms4 hb4
                go_wp2_with fail
                go_roundw
                case rel => exact ⟨k + 1, _, g4, c4, by omega, by go_num, by omega, rfl, rfl, fun h => by
                  obtain ⟨j, h1, h2⟩ := HBAR.out h
                  exact ⟨j, by omega, h2⟩, fun j hj => by
                  by_cases hjk : j = k
                  · subst hjk; exact H3.out
                  · exact HCP.out j (by omega), HMS4.out, B4.out⟩
                case measure => simp [intOf]; omega
              · go_wp2_with fail
                refine (mayAt_ok (some ⟨b, off, none⟩) cap l n k _ HN.out hcap HCAP2.out (HK.out.below BA.out) (HE.out.below BA.out) HO.out).mono ?_
                rw [HMAY.out]
                rintro ε w3 ⟨rfl, hb3⟩
                have B3 := Lib.hid (BA.out.trans (hb3.mono (by have := HBE.out.size; simp; omega)))
                have HG3 := Lib.hid (show w3.heap[wr.heap.size]? = some (.cells (rowE (nt l k)) 31 (0, 0)) from (hb3.block wr.heap.size (by simp)).trans HG.out)
                have HMS3 := Lib.hid (HMA.out.below hb3)
                clear hb3
                obtain ⟨q0, q1, q2, q3, q4⟩ := blk5 HG3.out
                have B1 := B3
                go_wp2_with fail
                refine (wakes_ok _ (HK.out.below B1.out)).mono ?_
                rintro ε w9 ⟨rfl, hb9⟩
                have B9 := Lib.hid (B1.out.trans (hb9.mono B1.out.size))
                clear hb9
                go_wp2_with fail
                go_ret
                exact ⟨rfl, B9.out⟩
            · obtain rfl : c = 0 := by omega
              cases h3 : ((nt l k).k == 3)
              · have H3 := Lib.hid (show (nt l k).k ≠ 3 by simpa using h3)
                have B3 := BA; have HG3 := HG; have HMS3 := HMA
                go_wp2_with fail
                refine (put_ok g cm (memK l (fun _ => 0) k) (nt l k) _ HMS3.out HOK.out).mono ?_
                intro ε w4 hp
                obtain ⟨g4, c4, rfl, _, _, hms4, hb4⟩ := hp
                have B4 := Lib.hid (B3.out.trans (hb4.mono B3.out.size))
                have HMS4 := Lib.hid hms4
                clear hms4 hb4
                go_wp2_with fail
                go_roundw
                case rel => exact ⟨k + 1, 0, g4, c4, by omega, by go_num, by omega, by first | rfl | go_num, rfl, fun h => absurd h (by omega), fun j hj => by
                  by_cases hjk : j = k
                  · subst hjk; exact H3.out
                  · exact HCP.out j (by omega), HMS4.out, B4.out⟩
                case measure => simp [intOf]; omega
              · have B1 := BA
                go_wp2_with fail
                refine (wakes_ok _ (HK.out.below B1.out)).mono ?_
                rintro ε w9 ⟨rfl, hb9⟩
                have B9 := Lib.hid (B1.out.trans (hb9.mono B1.out.size))
                clear hb9
                go_wp2_with fail
                go_ret
                exact ⟨rfl, B9.out⟩
          · have HB := Lib.hid (show isBar (nt l k) = true from hb)
            have hk1 : (nt l k).k = 1 := by simpa using hb
            have h3 : ((nt l k).k == 3) = false := by simp [hk1]
            have H3 := Lib.hid (show (nt l k).k ≠ 3 by omega)
            have HMAY := Lib.hid (bar_may (Nat.le_refl k) HB.out)
            have hc0 : 0 < c + 1 := by omega
            clear hk1
            go_wp2_with fail
            refine (mayAt_ok (some ⟨b, off, none⟩) cap l n k _ HN.out hcap HCAP2.out (HK.out.below BA.out) (HE.out.below BA.out) HO.out).mono ?_
            rw [HMAY.out]
            rintro ε w3 ⟨rfl, hb3⟩
            have B3 := Lib.hid (BA.out.trans (hb3.mono (by have := HBE.out.size; simp; omega)))
            have HG3 := Lib.hid (show w3.heap[wr.heap.size]? = some (.cells (rowE (nt l k)) 31 (0, 0)) from (hb3.block wr.heap.size (by simp)).trans HG.out)
            have HMS3 := Lib.hid (HMA.out.below hb3)
            clear hb3
            obtain ⟨q0, q1, q2, q3, q4⟩ := blk5 HG3.out
            go_wp2_with fail
            refine (put_ok g cm (memK l (fun _ => 0) k) (nt l k) _ HMS3.out HOK.out).mono ?_
            intro ε w4 hp
            obtain ⟨g4, c4, rfl, _, _, hms4, hb4⟩ := hp
            have B4 := Lib.hid (B3.out.trans (hb4.mono B3.out.size))
            have HMS4 := Lib.hid hms4
            clear hms4 hb4
            go_wp2_with fail
            go_roundw
            case rel => exact ⟨k + 1, c + 1, g4, c4, by omega, by go_num, by omega, by go_num, rfl, fun _ => ⟨k, by omega, HB.out⟩, fun j hj => by
              by_cases hjk : j = k
              · subst hjk; exact H3.out
              · exact HCP.out j (by omega), HMS4.out, B4.out⟩
            case measure => simp [intOf]; omega
        · obtain rfl : k = n := by omega
          go_wp2_with fail
          refine (forward_ok ao cap l k W _ HN.out hcap HCAP2.out h0 HW1.out (HK.out.below HBE.out) (HE.out.below HBE.out) HO.out).mono ?_
          rintro ε w3 ⟨rfl, hb3⟩
          have B3 := Lib.hid (HBE.out.trans (hb3.mono HBE.out.size))
          have HMS3 := Lib.hid (HMS.out.below hb3)
          have HOKB := Lib.hid (bar_ok HCH.out hW (fun j hj => HCP.out j (by have := HN.out; omega)) (fun _ => 0))
          clear hb3
          obtain ⟨fr, hfr⟩ : ∃ fr, fwdR l W = fr := ⟨_, rfl⟩
          rw [hfr] at HOKB ⊢
          clear hfr
          obtain ⟨f1, f2, f3⟩ := fr
          go_wp2_with fail
          go_loopw [12, 60] (fun s12 i wr => ∃ q : Nat, q ≤ k ∧ i = .int .i64 q ∧ s12 = .bool (namB l W q) ∧ Below w3.heap.size w3 wr) (fun _ i _ => 8 - (intOf i).toNat)
          case atStart => exact ⟨0, by omega, rfl, rfl, Below.refl _ _⟩
          case round =>
            obtain ⟨q, hq, rfl, rfl, hbr⟩ := hrel
            have HBR := Lib.hid hbr
            have hzr : w3.heap.size ≤ wr.heap.size := hbr.size
            have BR := Lib.hid (B3.out.trans (hbr.mono B3.out.size))
            clear hbr
            by_cases hqk : q < k
            · obtain ⟨b, off, rfl, x⟩ := (HE.out.below BR.out) q (by have := HN.out; omega)
              obtain ⟨x0, x1, x2, x3, x4⟩ := x
              have HST := Lib.hid (show namB l W (q + 1) = (namB l W q || nmB (nt l q) W) from rfl)
              cases hnm : namB l W q
              · cases d0 : ((nt l q).k == 0)
                · cases d2 : ((nt l q).k == 2)
                  · have HNX := Lib.hid (show namB l W (q + 1) = false by rw [HST.out, hnm]; simp [nmB, d0, d2])
                    go_wp2_with fail
                    go_roundw
                    case rel => exact ⟨q + 1, by omega, by go_num, by rw [HNX.out], HBR.out.alloc (by omega) _⟩
                    case measure => simp [intOf]; omega
                  · cases df : ((nt l q).fm == (W : Int) / 512)
                    · have HNX := Lib.hid (show namB l W (q + 1) = false by rw [HST.out, hnm]; simp [nmB, d0, df])
                      go_wp2_with fail
                      go_roundw
                      case rel => exact ⟨q + 1, by omega, by go_num, by rw [HNX.out], HBR.out.alloc (by omega) _⟩
                      case measure => simp [intOf]; omega
                    · have HNX := Lib.hid (show namB l W (q + 1) = true by rw [HST.out, hnm]; simp [nmB, d2, df])
                      go_wp2_with fail
                      go_roundw
                      case rel => exact ⟨q + 1, by omega, by go_num, by rw [HNX.out], HBR.out.alloc (by omega) _⟩
                      case measure => simp [intOf]; omega
                · have d2 : ((nt l q).k == 2) = false := by
                    have : (nt l q).k = 0 := by simpa using d0
                    simp [this]
                  cases dw : ((nt l q).wd == (W : Int))
                  · have HNX := Lib.hid (show namB l W (q + 1) = false by rw [HST.out, hnm]; simp [nmB, dw, d2])
                    go_wp2_with fail
                    go_roundw
                    case rel => exact ⟨q + 1, by omega, by go_num, by rw [HNX.out], HBR.out.alloc (by omega) _⟩
                    case measure => simp [intOf]; omega
                  · have HNX := Lib.hid (show namB l W (q + 1) = true by rw [HST.out, hnm]; simp [nmB, d0, dw])
                    go_wp2_with fail
                    go_roundw
                    case rel => exact ⟨q + 1, by omega, by go_num, by rw [HNX.out], HBR.out.alloc (by omega) _⟩
                    case measure => simp [intOf]; omega
              · have HNX := Lib.hid (show namB l W (q + 1) = true by rw [HST.out, hnm]; rfl)
                go_wp2_with fail
                go_roundw
                case rel => exact ⟨q + 1, by omega, by go_num, by rw [HNX.out], HBR.out.alloc (by omega) _⟩
                case measure => simp [intOf]; omega
            · obtain rfl : q = k := by omega
              have y := (HMS3.out.below HBR.out) W hW
              obtain ⟨e1, e2, e3⟩ := HOKB.out
              have HE3 := Lib.hid e3
              rw [← HN.out] at e2
              subst e1
              rw [← e2]
              clear e2 e3 HOKB
              cases f2
              · go_wp2_with fail
                refine (wakes_ok _ (HK.out.below BR.out)).mono ?_
                rintro ε w9 ⟨rfl, hb9⟩
                have B9 := Lib.hid (BR.out.trans (hb9.mono BR.out.size))
                clear hb9
                go_wp2_with fail
                go_ret
                exact ⟨rfl, B9.out⟩
              · have hf := HE3.out rfl
                rw [← HN.out] at hf
                rw [← hf] at y
                clear hf
                go_wp2_with fail
                refine (wakes_ok _ (HK.out.below BR.out)).mono ?_
                rintro ε w9 ⟨rfl, hb9⟩
                have B9 := Lib.hid (BR.out.trans (hb9.mono BR.out.size))
                clear hb9
                go_wp2_with fail
                go_ret
                exact ⟨rfl, B9.out⟩

namespace bufferBar
theorem laid : laidOutB Tryd.prog = true := by kernel_rfl
theorem own : ownKnob Tryd.prog.godebug = none := by kernel_rfl
set_option maxRecDepth 100000 in
theorem lifted (os : Os) (started : os.Started) (H : Type) (enc : TypeId × Value → H) :
    ReturnsInHanded {} Tryd.checked os 5 .any (fun w args => (Rows.bufferBarSpec.pre enc Tryd.prog Tryd.f5 [] false w args ∧ laidMetH Tryd.prog laidK w) ∧ sizedMet enc Tryd.prog Tryd.f5 (OpenSpec.ofChange Rows.bufferBarSpec) false w args)
      (Rows.bufferBarSpec.post enc Tryd.prog Tryd.f5 false true false false) := by
  refine returnsInHanded_of_change_and (C := Tryd.checked) (X := fun w _ => laidMetH Tryd.prog laidK w) (fun _ _ _ hh h => h.of_heap hh) own started (by kernel_rfl) Tryd.func5
    (ChangeSpec.witness_shaped (enc := enc) (C := Tryd.checked) (os := os) (X := fun w _ => laidMetH Tryd.prog laidK w) false (World.doorLaid Tryd.prog 18 os) #[.slice none 0 0, .int .u64 0] 8 rfl (World.shaped_of_RefB (by kernel_rfl) (by kernel_rfl)) (by kernel_rfl) (by kernel_rfl) (by kernel_rfl) (door_met os _)) ?_
  intro W base args ds gs before hval0 hW _ _ hL _
  have hval : ∀ (j : Nat) t v, Tryd.f5.params[j]? = some t → args[j]? = some v → Value.okWide Tryd.prog W .any base t v := hval0
  have hW' := hW
  obtain ⟨p, q, hA0, hV, rfl, hfz, hnd⟩ := hW
  have hA : DataW.TrodAll enc Tryd.prog W 0 (fun _ => true) true Tryd.f5.params.toList args.toList ds p := hA0
  rw [Tryd.params5] at hA hval
  obtain ⟨v0, vs0, d0, ds0, p0, q0, hargs, rfl, rfl, h0, r0⟩ := trodAll_cons hA
  obtain ⟨v1, vs1, d1, ds1, p1, q1, rfl, rfl, rfl, h1, r1⟩ := trodAll_cons r0
  obtain ⟨rfl, rfl, rfl⟩ := trodAll_nil r1
  obtain rfl : args = #[v0, v1] := by cases args; simp_all
  obtain ⟨rfl, rfl⟩ := trodVars_none hV
  obtain ⟨ao, n, cap, l, rfl, hn, hc, hcc, hz, he, ho⟩ := ents_of (hval 0 22 v0 rfl rfl) h0
  obtain ⟨wd, rfl, rfl, rfl, w1⟩ := open_int Tryd.underlying28 (hval 1 28 v1 rfl rfl) h1
  have hwd := bounds_u64 w1
  have hk := kinds_of hL
  refine (bar_walk ao cap l n wd W hn hc hcc hwd.1 hwd.2 hk he ho).mono fun e W' ⟨he, hg⟩ => ?_
  subst he
  exact ⟨_, rfl, law_post laid hW' rfl (by decide +kernel) rfl rfl Tryd.underlying4 hg⟩

theorem over : Rows.bufferBarRow.holds Tryd.pinned (OpenSpec.ofChange Rows.bufferBarSpec) :=
  OpenClaim.holds_of_wide 5 Tryd.f5 rfl rfl rfl rfl rfl rfl rfl ⟨rfl, rfl, rfl, rfl, rfl⟩ rfl rfl rfl rfl rfl (by kernel_rfl) Tryd.func5 (by kernel_rfl)
    (of_decide_eq_true (by kernel_rfl)) (by unfold Func.isWrapper; first | (rw [if_pos (by decide +kernel)]; kernel_rfl) | (rw [if_neg (by decide +kernel)]; exact ⟨rfl, rfl⟩))
    (fun os started H enc _ => lifted os started H enc)
end bufferBar

/-- THE STATEMENT: the tied card. -/
theorem bufferBar_proved : Rows.BufferBarCardSaid :=
  Claim7.holds_tied_plain_at .later [] [.data] true (true, "1812fa4e4427ba4c974eeeffb4956a9f2b328edb398a7e572adffd0c6ab5d111") false
    bufferBar.over (fun _ h => by cases h) (by kernel_rfl) (fun _ h => by cases h) bufferBar_row_tie rfl ⟨rfl, rfl⟩ (by kernel_rfl) rfl
    (fun f fn hf hfn => by
      obtain rfl : f = 5 := Option.some.inj ((show Tryd.prog.funcNamed "tenement/tenementlaw09.BufferBar" = some 5 by kernel_rfl).symm.trans hf) |>.symm
      obtain rfl : fn = Tryd.f5 := (Option.some.inj (Tryd.func5.symm.trans hfn)).symm
      exact ⟨by kernel_rfl, fun j t ht => by
        rw [Tryd.params5] at ht
        have hm : t ∈ [22, 28] := by simpa using Array.mem_of_getElem? ht
        have hall : ([22, 28].all fun u => !Tryd.prog.wantsStandIn u) = true := by kernel_rfl
        exact (show Tryd.prog.wantsStandIn t = false by simpa using List.all_eq_true.1 hall t hm)⟩)
    (by kernel_rfl)
#print axioms bufferBar_proved
end Go.Proofs.YtdmcmpbappjdoaaDoor
