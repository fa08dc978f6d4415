/- Statement BufferAhead of layer 9: the law returns true at every input, and every argument reads as before. The package variable kinds reads as its initialiser lays it (tied to the program's text). -/
import Derived.Test.YtdmcmpbappjdoaaDoorE1
import Derived.Deep.RegionHeld3
import Derived.Test.YtdmcmpbappjdoaaDoorShape
import Derived.Test.YtdmcmpbappjdoaaDoorCards
import Derived.Test.YtdmcmpbappjdoaaDoorTie
namespace Go.Proofs.YtdmcmpbappjdoaaDoor
open Go.ChangeShapes Go.WideShapes Go.ChangeAt Go.RowKit
set_option linter.unusedVariables false
attribute [local go_sem ↓] eq_run

def hitB (rest : List Ent) (x : Ent) (i : Nat) : Bool := eqE (nt rest i) x && mayAt rest i
theorem Ents.drew {w : World} {ao : Option Addr} {l : List Ent} (h : Ents w ao l) : Ents w.drew ao l := fun i hi => by
  obtain ⟨b, off, e, x⟩ := h i hi
  exact ⟨b, off, e, ⟨x.c0, x.c1, x.c2, x.c3, x.c4⟩⟩
theorem Oks.erase {l : List Ent} (h : Oks l) (o : Nat) : Oks (l.eraseIdx o) := fun e he => h e (List.mem_of_mem_eraseIdx he)
theorem Oks.take {l : List Ent} (h : Oks l) (o : Nat) : Oks (l.take o) := fun e he => h e (List.mem_of_mem_take he)

set_option maxHeartbeats 2000000 in
theorem ahead_walk (ao : Option Addr) (cap : Nat) (l : List Ent) (n : Nat) (k o : Int) (w : World) (hn : n = l.length) (hcap : n ≤ cap) (hcap2 : cap ≤ 9223372036854775807) (hk : TK w) (he : Ents w ao l) (ho : Oks l) :
    Calls Tryd.prog 4 #[.slice ao n cap, .int .i64 k, .int .i64 o] w fun ε w' => ε = .returned (.bool true) ∧ Below w.heap.size w w' := by
  have HN := Lib.hid hn; have HK := Lib.hid hk; have HE := Lib.hid he; have HO := Lib.hid ho
  clear hk he ho hn
  go_enter Tryd.func4, Tryd.ntmps4
  go_wp2_with fail
  refine (check_ok ao cap l n _ HN.out (by omega) HK.out HE.out HO.out).mono ?_
  rintro ε w1 ⟨rfl, hb1⟩
  have B1 := Lib.hid hb1
  clear hb1
  cases hch : checkB l
  · have hcc : (cc false != 0) = true := rfl
    go_wp2_with fail
    refine (wakes_ok _ (HK.out.below B1.out)).mono ?_
    rintro ε w9 ⟨rfl, hb9⟩
    have B9 := Lib.hid (B1.out.trans (hb9.mono B1.out.size))
    clear hb9
    go_wp2_with fail
    go_ret
    exact ⟨rfl, B9.out⟩
  · have hcc : (cc true != 0) = false := rfl
    have HCH := Lib.hid hch
    clear hch
    by_cases hk0 : k < 0
    · have hd : decide (k < 0) = true := by simpa using hk0
      go_wp2_with fail
      refine (wakes_ok _ (HK.out.below B1.out)).mono ?_
      rintro ε w9 ⟨rfl, hb9⟩
      have B9 := Lib.hid (B1.out.trans (hb9.mono B1.out.size))
      clear hb9
      go_wp2_with fail
      go_ret
      exact ⟨rfl, B9.out⟩
    · obtain ⟨K, rfl⟩ : ∃ K : Nat, k = K := ⟨k.toNat, by omega⟩
      have hd0 : decide ((K : Int) < 0) = false := by simp
      by_cases hk1 : K < n
      · have hd1 : decide (n ≤ K) = false := by simpa using hk1
        by_cases ho0 : o < 0
        · have hd : decide (o < 0) = true := by simpa using ho0
          go_wp2_with fail
          refine (wakes_ok _ (HK.out.below B1.out)).mono ?_
          rintro ε w9 ⟨rfl, hb9⟩
          have B9 := Lib.hid (B1.out.trans (hb9.mono B1.out.size))
          clear hb9
          go_wp2_with fail
          go_ret
          exact ⟨rfl, B9.out⟩
        · obtain ⟨O, rfl⟩ : ∃ O : Nat, o = O := ⟨o.toNat, by omega⟩
          have hd2 : decide ((O : Int) < 0) = false := by simp
          by_cases ho1 : O < n
          · have hd3 : decide (n ≤ O) = false := by simpa using ho1
            by_cases hok : O = K
            · subst hok
              have hd4 : ((O : Int) == (O : Int)) = true := by simp
              go_wp2_with fail
              refine (wakes_ok _ (HK.out.below B1.out)).mono ?_
              rintro ε w9 ⟨rfl, hb9⟩
              have B9 := Lib.hid (B1.out.trans (hb9.mono B1.out.size))
              clear hb9
              go_wp2_with fail
              go_ret
              exact ⟨rfl, B9.out⟩
            · have hd4 : ((O : Int) == (K : Int)) = false := by simp; omega
              have hd5 : (O == K) = false := by simpa using hok
              obtain ⟨b, off, rfl, xK⟩ := HE.out K (by have := HN.out; omega)
              have hbw := xK.lt
              have HXK := Lib.hid xK
              clear xK
              have HMT := Lib.hid (may_take HCH.out (k := K) (by have := HN.out; omega))
              go_wp2_with fail
              refine (mayAt_ok (some ⟨b, off, none⟩) cap (l.take (K + 1)) (K + 1) K _ (by simp; have := HN.out; omega) (by omega) hcap2 (HK.out.below B1.out) ((HE.out.below B1.out).take (K + 1)) (HO.out.take _)).mono ?_
              rw [HMT.out]
              rintro ε w2 ⟨rfl, hb2⟩
              have B2 := Lib.hid (B1.out.trans (hb2.mono B1.out.size))
              clear hb2
              go_wp2_with fail
              refine (mayAt_ok (some ⟨b, off, none⟩) cap l n K _ HN.out hcap hcap2 (HK.out.below B2.out) (HE.out.below B2.out) HO.out).mono ?_
              rintro ε w3 ⟨rfl, hb3⟩
              have B3 := Lib.hid (B2.out.trans (hb3.mono B2.out.size))
              clear hb3
              go_wp2_with fail
              refine (mayAt_ok (some ⟨b, off, none⟩) cap l n K _ HN.out hcap hcap2 (HK.out.below B3.out) (HE.out.below B3.out) HO.out).mono ?_
              rintro ε w4 ⟨rfl, hb4⟩
              have B4 := Lib.hid (B3.out.trans (hb4.mono B3.out.size))
              clear hb4 B1 B2 B3
              cases hmk : mayAt l K
              · have B1 := B4
                clear B4
                go_wp2_with fail
                refine (wakes_ok _ (HK.out.below B1.out)).mono ?_
                rintro ε w9 ⟨rfl, hb9⟩
                have B9 := Lib.hid (B1.out.trans (hb9.mono B1.out.size))
                clear hb9
                go_wp2_with fail
                go_ret
                exact ⟨rfl, B9.out⟩
              · have HFK := Lib.hid (show freeB l K = true by simp [mayAt] at hmk; exact hmk.2)
                clear hmk
                go_wp2_with fail
                refine (mayAt_ok (some ⟨b, off, none⟩) cap l n O _ HN.out hcap hcap2 (HK.out.below B4.out) (HE.out.below B4.out) HO.out).mono ?_
                rintro ε w5 ⟨rfl, hb5⟩
                have B1 := Lib.hid (B4.out.trans (hb5.mono B4.out.size))
                clear hb5 B4
                cases hmo : mayAt l O
                · go_wp2_with fail
                  refine (wakes_ok _ (HK.out.below B1.out)).mono ?_
                  rintro ε w9 ⟨rfl, hb9⟩
                  have B9 := Lib.hid (B1.out.trans (hb9.mono B1.out.size))
                  clear hb9
                  go_wp2_with fail
                  go_ret
                  exact ⟨rfl, B9.out⟩
                · have HFO := Lib.hid (show freeB l O = true by simp [mayAt] at hmo; exact hmo.2)
                  clear hmo
                  go_wp2_with fail
                  refine (take_yes b off cap l n O _ HN.out hcap hcap2 (HK.out.below B1.out) (HE.out.below B1.out) HO.out ho1 HCH.out HFO.out).mono ?_
                  intro ε w6 hp
                  obtain ⟨ar, cr, rfl, g1, g2, g3, hE6, hb6⟩ := hp
                  have HAH := Lib.hid (ahead HCH.out (k := K) (o := O) (by have := HN.out; omega) (by have := HN.out; omega) hok HFK.out)
                  have HOR := Lib.hid (show Oks (takeL l O) by rw [take_erase (k := K) (by have := HN.out; omega) (by have := HN.out; omega) hok HFK.out]; exact HO.out.erase O)
                  obtain ⟨rest, hrest⟩ : ∃ rest, takeL l O = rest := ⟨_, rfl⟩
                  rw [hrest] at g1 hE6 HAH HOR ⊢
                  clear hrest
                  obtain ⟨nr, hnr⟩ : ∃ nr, rest.length = nr := ⟨_, rfl⟩
                  have HNR := Lib.hid hnr
                  rw [hnr] at g1 ⊢
                  have HE6 := Lib.hid hE6
                  have B6 := Lib.hid (B1.out.trans (hb6.mono B1.out.size))
                  clear hE6 hb6 B1 hnr hd0 hd1 hd2 hd3 hd4 hd5 HFK HFO HMT
                  go_wp2_with fail
                  obtain ⟨w7, hw7⟩ : ∃ w7, w6.alloc (.cells #[.int .i8 (nt l O).k, .int .u64 (nt l O).wd, .int .u64 (nt l O).v, .int .i64 (nt l O).fr, .int .i64 (nt l O).fm] 31) = w7 := ⟨_, rfl⟩
                  have HS7 := Lib.hid (show Below w6.heap.size w6 w7 from hw7 ▸ (Below.refl _ _).alloc (Nat.le_refl _) _)
                  rw [hw7]
                  clear hw7
                  go_loopw [72] (fun i wr => ∃ q : Nat, q ≤ nr ∧ i = .int .i64 q ∧ (∀ j, j < q → hitB rest (nt l K) j = false) ∧ Below w6.heap.size w6 wr) (fun i _ => nr - (intOf i).toNat)
                  case atStart => exact ⟨0, by omega, rfl, fun j hj => by omega, HS7.out⟩
                  case round =>
                    obtain ⟨q, hq, rfl, hno, hbr⟩ := hrel
                    have HNO := Lib.hid hno; have HBR := Lib.hid hbr
                    have BR := Lib.hid (B6.out.trans (hbr.mono B6.out.size))
                    clear hno hbr
                    by_cases hqn : q < nr
                    · obtain ⟨rb, ro, rfl, xr⟩ := (HE6.out.below HBR.out) q (by have := HNR.out; omega)
                      obtain ⟨r0, r1, r2, r3, r4⟩ := xr
                      obtain ⟨k0, k1, k2, k3, k4⟩ := HXK.out.below BR.out
                      cases heq : eqE (nt rest q) (nt l K)
                      · have HH := Lib.hid (show hitB rest (nt l K) q = false by simp [hitB, heq])
                        go_wp2_with fail
                        go_quiet (fail)
                        go_wp2_with fail
                        go_roundw
                        case rel => exact ⟨q + 1, by omega, by go_num, fun j hj => by
                          by_cases hjq : j = q
                          · subst hjq; exact HH.out
                          · exact HNO.out j (by omega), below_drewN HBR.out _⟩
                        case measure => simp [intOf]; omega
                      · have hbr : rb < wr.heap.size := lt_of_cell r0
                        have hbk : b < wr.heap.size := lt_of_cell k0
                        go_wp2_with fail
                        go_region_held3 (fun wv => wv.cell? ⟨rb, ro + q * 5, none⟩ = some (.int .i8 (nt rest q).k) ∧ wv.cell? ⟨rb, ro + q * 5 + 1, none⟩ = some (.int .u64 (nt rest q).wd) ∧ wv.cell? ⟨rb, ro + q * 5 + 2, none⟩ = some (.int .u64 (nt rest q).v) ∧ wv.cell? ⟨rb, ro + q * 5 + 3, none⟩ = some (.int .i64 (nt rest q).fr) ∧ wv.cell? ⟨rb, ro + q * 5 + 4, none⟩ = some (.int .i64 (nt rest q).fm) ∧ wv.cell? ⟨b, off + K * 5, none⟩ = some (.int .i8 (nt l K).k) ∧ wv.cell? ⟨b, off + K * 5 + 1, none⟩ = some (.int .u64 (nt l K).wd) ∧ wv.cell? ⟨b, off + K * 5 + 2, none⟩ = some (.int .u64 (nt l K).v) ∧ wv.cell? ⟨b, off + K * 5 + 3, none⟩ = some (.int .i64 (nt l K).fr) ∧ wv.cell? ⟨b, off + K * 5 + 4, none⟩ = some (.int .i64 (nt l K).fm)) (go_keep)
                          (first | (go_at_call 10; refine (mayAt_ok (some ⟨rb, ro, none⟩) cr rest nr q _ HNR.out.symm g1 g2 (TK.drew (HK.out.below BR.out)) (Ents.drew (HE6.out.below HBR.out)) HOR.out).mono ?_; rintro ε wm ⟨rfl, hbm⟩; have HM := Lib.hid (below_of_drew (B := wr.heap.size) hbm (Nat.le_refl _)); clear hbm; have hold := oldc HM.out))
                        all_goals
                          have B1 := Lib.hid (BR.out.trans (HM.out.mono BR.out.size))
                          have HBM := Lib.hid (HBR.out.trans (HM.out.mono HBR.out.size))
                          clear r0 r1 r2 r3 r4 k0 k1 k2 k3 k4 hold
                          cases hma : mayAt rest q
                          · have HH := Lib.hid (show hitB rest (nt l K) q = false by simp [hitB, hma])
                            go_wp2_with fail
                            go_roundw
                            case rel => exact ⟨q + 1, by omega, by go_num, fun j hj => by
                              by_cases hjq : j = q
                              · subst hjq; exact HH.out
                              · exact HNO.out j (by omega), HBM.out⟩
                            case measure => simp [intOf]; omega
                          · go_wp2_with fail
                            refine (wakes_ok _ (HK.out.below B1.out)).mono ?_
                            rintro ε w9 ⟨rfl, hb9⟩
                            have B9 := Lib.hid (B1.out.trans (hb9.mono B1.out.size))
                            clear hb9
                            go_wp2_with fail
                            go_ret
                            exact ⟨rfl, B9.out⟩
                    · exfalso
                      obtain ⟨i, hi, h1, h2⟩ := HAH.out
                      have := HNO.out i (by have := HNR.out; omega)
                      simp [hitB, h1, h2, eqE_self] at this
          · have hd3 : decide (n ≤ O) = true := by simpa using ho1
            go_wp2_with fail
            refine (wakes_ok _ (HK.out.below B1.out)).mono ?_
            rintro ε w9 ⟨rfl, hb9⟩
            have B9 := Lib.hid (B1.out.trans (hb9.mono B1.out.size))
            clear hb9
            go_wp2_with fail
            go_ret
            exact ⟨rfl, B9.out⟩
      · have hd1 : decide (n ≤ K) = true := by simpa using hk1
        go_wp2_with fail
        refine (wakes_ok _ (HK.out.below B1.out)).mono ?_
        rintro ε w9 ⟨rfl, hb9⟩
        have B9 := Lib.hid (B1.out.trans (hb9.mono B1.out.size))
        clear hb9
        go_wp2_with fail
        go_ret
        exact ⟨rfl, B9.out⟩

namespace bufferAhead
theorem laid : laidOutB Tryd.prog = true := by kernel_rfl
theorem own : ownKnob Tryd.prog.godebug = none := by kernel_rfl
set_option maxRecDepth 100000 in
theorem lifted (os : Os) (started : os.Started) (H : Type) (enc : TypeId × Value → H) :
    ReturnsInHanded {} Tryd.checked os 4 .any (fun w args => (Rows.bufferAheadSpec.pre enc Tryd.prog Tryd.f4 [] false w args ∧ laidMetH Tryd.prog laidK w) ∧ sizedMet enc Tryd.prog Tryd.f4 (OpenSpec.ofChange Rows.bufferAheadSpec) false w args)
      (Rows.bufferAheadSpec.post enc Tryd.prog Tryd.f4 false true false false) := by
  refine returnsInHanded_of_change_and (C := Tryd.checked) (X := fun w _ => laidMetH Tryd.prog laidK w) (fun _ _ _ hh h => h.of_heap hh) own started (by kernel_rfl) Tryd.func4
    (ChangeSpec.witness_shaped (enc := enc) (C := Tryd.checked) (os := os) (X := fun w _ => laidMetH Tryd.prog laidK w) false (World.doorLaid Tryd.prog 18 os) #[.slice none 0 0, .int .i64 0, .int .i64 0] 8 rfl (World.shaped_of_RefB (by kernel_rfl) (by kernel_rfl)) (by kernel_rfl) (by kernel_rfl) (by kernel_rfl) (door_met os _)) ?_
  intro W base args ds gs before hval0 hW _ _ hL _
  have hval : ∀ (j : Nat) t v, Tryd.f4.params[j]? = some t → args[j]? = some v → Value.okWide Tryd.prog W .any base t v := hval0
  have hW' := hW
  obtain ⟨p, q, hA0, hV, rfl, hfz, hnd⟩ := hW
  have hA : DataW.TrodAll enc Tryd.prog W 0 (fun _ => true) true Tryd.f4.params.toList args.toList ds p := hA0
  rw [Tryd.params4] at hA hval
  obtain ⟨v0, vs0, d0, ds0, p0, q0, hargs, rfl, rfl, h0, r0⟩ := trodAll_cons hA
  obtain ⟨v1, vs1, d1, ds1, p1, q1, rfl, rfl, rfl, h1, r1⟩ := trodAll_cons r0
  obtain ⟨v2, vs2, d2, ds2, p2, q2, rfl, rfl, rfl, h2, r2⟩ := trodAll_cons r1
  obtain ⟨rfl, rfl, rfl⟩ := trodAll_nil r2
  obtain rfl : args = #[v0, v1, v2] := by cases args; simp_all
  obtain ⟨rfl, rfl⟩ := trodVars_none hV
  obtain ⟨ao, n, cap, l, rfl, hn, hc, hcc, hz, he, ho⟩ := ents_of (hval 0 22 v0 rfl rfl) h0
  obtain ⟨k, rfl, rfl, rfl, w1⟩ := open_int Tryd.underlying3 (hval 1 3 v1 rfl rfl) h1
  obtain ⟨o, rfl, rfl, rfl, w2⟩ := open_int Tryd.underlying3 (hval 2 3 v2 rfl rfl) h2
  have hk := kinds_of hL
  refine (ahead_walk ao cap l n k o W hn hc hcc hk he ho).mono fun e W' ⟨he, hg⟩ => ?_
  subst he
  exact ⟨_, rfl, law_post laid hW' rfl (by decide +kernel) rfl rfl Tryd.underlying4 hg⟩

theorem over : Rows.bufferAheadRow.holds Tryd.pinned (OpenSpec.ofChange Rows.bufferAheadSpec) :=
  OpenClaim.holds_of_wide 4 Tryd.f4 rfl rfl rfl rfl rfl rfl rfl ⟨rfl, rfl, rfl, rfl, rfl⟩ rfl rfl rfl rfl rfl (by kernel_rfl) Tryd.func4 (by kernel_rfl)
    (of_decide_eq_true (by kernel_rfl)) (by unfold Func.isWrapper; first | (rw [if_pos (by decide +kernel)]; kernel_rfl) | (rw [if_neg (by decide +kernel)]; exact ⟨rfl, rfl⟩))
    (fun os started H enc _ => lifted os started H enc)
end bufferAhead

/-- THE STATEMENT: the tied card. -/
theorem bufferAhead_proved : Rows.BufferAheadCardSaid :=
  Claim7.holds_tied_plain_at .later [] [.data] true (true, "1812fa4e4427ba4c974eeeffb4956a9f2b328edb398a7e572adffd0c6ab5d111") false
    bufferAhead.over (fun _ h => by cases h) (by kernel_rfl) (fun _ h => by cases h) bufferAhead_row_tie rfl ⟨rfl, rfl⟩ (by kernel_rfl) rfl
    (fun f fn hf hfn => by
      obtain rfl : f = 4 := Option.some.inj ((show Tryd.prog.funcNamed "tenement/tenementlaw09.BufferAhead" = some 4 by kernel_rfl).symm.trans hf) |>.symm
      obtain rfl : fn = Tryd.f4 := (Option.some.inj (Tryd.func4.symm.trans hfn)).symm
      exact ⟨by kernel_rfl, fun j t ht => by
        rw [Tryd.params4] at ht
        have hm : t ∈ [22, 3, 3] := by simpa using Array.mem_of_getElem? ht
        have hall : ([22, 3, 3].all fun u => !Tryd.prog.wantsStandIn u) = true := by kernel_rfl
        exact (show Tryd.prog.wantsStandIn t = false by simpa using List.all_eq_true.1 hall t hm)⟩)
    (by kernel_rfl)
#print axioms bufferAhead_proved
end Go.Proofs.YtdmcmpbappjdoaaDoor
