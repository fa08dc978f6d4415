/- Statement AsidSame of layer 17: the law returns true at every input, and every argument reads as before. No conditions. -/
import Derived.Test.YtbdphbkpglhhaaaA6
import Derived.Test.YtbdphbkpglhhaaaShape
namespace Go.Proofs.Ytbdphbkpglhhaaa
open Go.ChangeShapes Go.WideShapes Go.ChangeAt Go.RowKit
set_option linter.unusedVariables false

theorem askT_bd (N : Nat) (g : Nat → Int) (s : Int) (R : Nat → Int) (len : Nat) (age : Int) : age ≤ askT N g s R len age ∧ askT N g s R len age ≤ age + 1 := by
  unfold askT; split <;> omega

set_option maxHeartbeats 1000000 in
set_option maxRecDepth 100000 in
theorem same_walk (n : Int) (ao : Option Addr) (len cap : Nat) (K S : Nat → Int) (RA : Nat → Option Addr) (RL RC : Nat → Nat) (RV : Nat → Nat → Int) (sp : Int) (w : World) (hcap : len ≤ 9223372036854775807) (ha : Acts w ao len K S RA RL RC RV) :
    Calls Try.prog 4 #[.int .i64 n, .slice ao len cap, .int .i64 sp] w fun e w' => e = .returned (.bool true) ∧ Below w.heap.size w w' := by
  have HA := Lib.hid ha
  clear ha
  by_cases hn : n < 2 ∨ 16 < n
  · have HN := Lib.hid hn
    clear hn
    go_enter Try.func4, Try.ntmps4
    go_wp2_with fail
    refine (new_bad n _ HN.out).mono ?_
    rintro e w1 ⟨rfl, rfl⟩
    go_wp2_with fail
    refine (wakes_ok _).mono ?_
    rintro e w8 ⟨rfl, hb8⟩
    have B8 := Lib.hid hb8
    clear hb8
    go_wp2_with fail
    go_ret
    exact ⟨rfl, B8.out⟩
  · obtain ⟨N, rfl⟩ : ∃ N : Nat, n = N := ⟨n.toNat, by omega⟩
    have hN2 : 2 ≤ N := by omega
    have hN : N ≤ 16 := by omega
    clear hn
    go_enter Try.func4, Try.ntmps4
    go_wp2_with fail
    refine (new_ok N _ (by omega) (by omega)).mono ?_
    rintro e w1 ⟨b, rfl, hm, hb, hB, hlt⟩
    have M1 := Lib.hid hm; have HB := Lib.hid hb; have B1 := Lib.hid hB
    have HA1 := Lib.hid (show Acts w1 ao len K S RA RL RC RV from fun k hk => by
      obtain ⟨x, y, e, a⟩ := HA.out k hk
      exact ⟨x, y, e, a.below hB⟩)
    clear hm hb hB
    go_wp2_with fail
    refine (great_ok ao len cap K S RA RL RC RV _ hcap HA1.out).mono ?_
    rintro e w' ⟨G, rfl, hG, rfl⟩
    have HG := Lib.hid hG
    clear hG
    cases G
    · obtain ⟨h200, h20⟩ := HG.out rfl
      have H20 := Lib.hid h20
      clear HG h20
      go_wp2_with fail
      go_loopw [35] (fun i wr => ∃ (k : Nat) (g : Nat → Int) (age : Int), k ≤ len ∧ i = .int .i64 k ∧ Gi wr b N age g ∧ 0 ≤ age ∧ age ≤ k + 1 ∧ Below w.heap.size w wr) (fun i _ => len - (intOf i).toNat)
      case atStart => exact ⟨0, _, 1, by omega, rfl, M1.out, by omega, by omega, B1.out⟩
      case round =>
        obtain ⟨k, g, age, hk, rfl, hg, hage0, hage1, hbe⟩ := hrel
        have HGk := Lib.hid hg; have HE := Lib.hid hbe
        clear hg hbe
        by_cases hlk : k < len
        · obtain ⟨ab, off, rfl, a⟩ := HA.out k hlk
          have a' := a.below HE.out
          have c0 := a'.c0
          have c1 := a'.c1
          have c2 := a'.c2
          have HAk := Lib.hid a'
          have hl := H20.out k hlk
          clear a a'
          cases hK : (K k == 1)
          · go_wp2_with fail
            clear c0 c1 c2
            refine (ask_any b N age g (S k) (RA k) (RL k) (RC k) (RV k) _ (HGk.out.alloc _) hN hl (HAk.out.below ((Below.refl _ _).alloc (Nat.le_refl _) _)).toRun hage0 (by omega)).mono ?_
            rintro e w2 ⟨rfl, hg2, hgr2⟩
            have HG2 := Lib.hid hg2
            have HE2 := Lib.hid (below_only (HE.out.alloc HE.out.size (.cells #[.int .i64 (K k), .int .i64 (S k), .slice (RA k) (RL k) (RC k)] 32)) hgr2 (by have := HB.out; omega) (by have := HE.out.size; simp; omega))
            have ht := askT_bd N g (S k) (RV k) (RL k) age
            clear hg2 hgr2
            go_wp2_with fail
            go_roundw
            case rel => exact ⟨k + 1, _, _, by omega, by go_num, HG2.out, by omega, by omega, HE2.out⟩
            case measure => simp [intOf]; omega
          · go_wp2_with fail
            clear c0 c1 c2
            refine (gone_ok b N age g (S k) _ (HGk.out.alloc _) hN).mono ?_
            rintro e w2 ⟨rfl, hg2, hgr2⟩
            have HG2 := Lib.hid hg2
            have HE2 := Lib.hid (below_only (HE.out.alloc HE.out.size (.cells #[.int .i64 (K k), .int .i64 (S k), .slice (RA k) (RL k) (RC k)] 32)) hgr2 (by have := HB.out; omega) (by have := HE.out.size; simp; omega))
            clear hg2 hgr2
            go_wp2_with fail
            go_roundw
            case rel => exact ⟨k + 1, _, _, by omega, by go_num, HG2.out, by omega, by omega, HE2.out⟩
            case measure => simp [intOf]; omega
        · go_wp2_with fail
          refine (of_ok b N age g sp _ HGk.out hN).mono ?_
          rintro e w' ⟨rfl, rfl⟩
          cases hgood : ofB N g sp
          · clear hgood
            go_wp2_with fail
            refine (wakes_ok _).mono ?_
            rintro e w8 ⟨rfl, hb8⟩
            have B8 := Lib.hid hb8
            clear hb8
            go_wp2_with fail
            go_ret
            exact ⟨rfl, HE.out.trans (B8.out.mono HE.out.size)⟩
          · have hA0 : ofA N g sp ≠ 0 := by simpa [ofB] using hgood
            have hsp : sOk sp = true := by
              cases hs : sOk sp
              · exfalso
                apply hA0
                simp only [ofA]
                rw [if_neg (by simp [sOk] at hs; omega)]
              · rfl
            have HA0 := Lib.hid hA0; have HSP := Lib.hid hsp
            clear hgood hA0 hsp
            go_wp2_with fail
            have hd0 : (wr.alloc (arr7 41 fun _ => .int .i64 0)).heap[wr.heap.size]? = some (arr7 41 fun _ => .int .i64 0) := heap_alloc_new _ _
            have HD0 := Lib.hid hd0
            have HGa := Lib.hid (HGk.out.alloc (arr7 41 fun _ => .int .i64 0))
            have HEa := Lib.hid (HE.out.alloc HE.out.size (arr7 41 fun _ => .int .i64 0))
            have hbd : b < wr.heap.size := HGk.out.lt
            have hsz := HE.out.size
            clear hd0
            obtain ⟨wo, rfl⟩ : ∃ wo : World, wo = wr := ⟨_, rfl⟩
            go_loopw [14] (fun i wr => ∃ q : Nat, 1 ≤ q ∧ q ≤ 7 ∧ i = .int .i64 q ∧ Gi wr b N age g ∧ wr.heap[wo.heap.size]? = some (arr7 41 fun j => .int .i64 (if 1 ≤ j ∧ j < q then (ofA N g j : Int) else 0)) ∧ Below w.heap.size w wr) (fun i _ => 7 - (intOf i).toNat)
            case atStart => exact ⟨1, by omega, by omega, rfl, HGa.out, HD0.out.trans (congrArg (fun F => some (arr7 41 F)) (funext fun j => by rw [if_neg (by omega)])), HEa.out⟩
            case round =>
              obtain ⟨q, hq1, hq2, rfl, hg3, hd3, hb3⟩ := hrel
              have HG3 := Lib.hid hg3; have HD3 := Lib.hid hd3; have HE3 := Lib.hid hb3
              clear hg3 hd3 hb3
              by_cases hq7 : q < 7
              · have hc := arr7_cell HD3.out q (by omega)
                have hf := arr7_free HD3.out q
                have hle := ofA_le N g q
                go_wp2_with fail
                refine (of_ok b N age g q _ HG3.out hN).mono ?_
                rintro e w' ⟨rfl, rfl⟩
                go_wp2_with fail
                go_roundw
                case rel =>
                  refine ⟨q + 1, by omega, by omega, by go_num, HG3.out.other (by omega) _ _, ?_, HE3.out.setCell (by show w.heap.size ≤ wo.heap.size; omega) _⟩
                  rw [arr7_put (Value.int .i64) HD3.out q (by omega) (ofA N g q)]
                  congr 2
                  funext j
                  by_cases hj : j = q
                  · subst hj
                    rw [if_pos rfl, if_pos ⟨by omega, by omega⟩]
                  · rw [if_neg hj]
                    by_cases hj2 : 1 ≤ j ∧ j < q
                    · rw [if_pos hj2, if_pos ⟨hj2.1, by omega⟩]
                    · rw [if_neg hj2, if_neg (by omega)]
                case measure => simp [intOf]; omega
              · obtain rfl : q = 7 := by omega
                go_wp2_with fail
                refine (ask_has b N age g sp none 0 0 _ HG3.out hN HSP.out HA0.out).mono ?_
                rintro e w' ⟨rfl, rfl⟩
                go_wp2_with fail
                obtain ⟨wp, rfl⟩ : ∃ wp : World, wp = wr := ⟨_, rfl⟩
                go_loop [18] (fun i => ∃ q : Nat, 1 ≤ q ∧ q ≤ 7 ∧ i = .int .i64 q) (fun i => 7 - (intOf i).toNat)
                case atStart => exact ⟨1, by omega, by omega, rfl⟩
                case round =>
                  obtain ⟨q, hq3, hq4, rfl⟩ := hrel
                  by_cases hq7' : q < 7
                  · have hc := arr7_cell HD3.out q (by omega)
                    rw [if_pos ⟨hq3, hq7'⟩] at hc
                    go_wp2_with fail
                    refine (of_ok b N age g q _ HG3.out hN).mono ?_
                    rintro e w' ⟨rfl, rfl⟩
                    go_wp2_with fail
                    go_round
                    case rel => exact ⟨q + 1, by omega, by omega, by go_num⟩
                    case measure => simp [intOf]; omega
                  · go_wp2_with fail
                    refine (wakes_ok _).mono ?_
                    rintro e w8 ⟨rfl, hb8⟩
                    have B8 := Lib.hid hb8
                    clear hb8
                    go_wp2_with fail
                    go_ret
                    exact ⟨rfl, HE3.out.trans (B8.out.mono HE3.out.size)⟩
    · clear HG
      go_wp2_with fail
      refine (wakes_ok _).mono ?_
      rintro e w8 ⟨rfl, hb8⟩
      have B8 := Lib.hid hb8
      clear hb8
      go_wp2_with fail
      go_ret
      exact ⟨rfl, B1.out.trans (B8.out.mono B1.out.size)⟩

namespace asidSame
theorem laid : laidOutB Try.prog = true := by kernel_rfl
theorem own : ownKnob Try.prog.godebug = none := by kernel_rfl
theorem lifted (os : Os) (started : os.Started) (H : Type) (enc : TypeId × Value → H) :
    ReturnsInHanded {} Try.checked os 4 .any (Rows.asidSameSpec.pre6 enc Try.prog Try.f4 Rows.asidSameRow.domain false) (Rows.asidSameSpec.post enc Try.prog Try.f4 false true false false) := by
  refine returnsInHanded_of_change (C := Try.checked) own started (by kernel_rfl) Try.func4
    (ChangeSpec.witness6 (enc := enc) (C := Try.checked) false ⟨#[], #[.int .i64 0, .slice none 0 0, .int .i64 0], []⟩ 8 (by kernel_rfl) (by kernel_rfl) (by kernel_rfl) (by kernel_rfl)) ?_
  intro W base args ds gs before hval0 hW hcnd _
  have hval : ∀ (j : Nat) t v, Try.f4.params[j]? = some t → args[j]? = some v → Value.okWide Try.prog W .any base t v := hval0
  have hW' := hW
  obtain ⟨p, q, hA0, hV, rfl, hfz, hnd⟩ := hW
  have hA : DataW.TrodAll enc Try.prog W 0 (fun _ => true) true Try.f4.params.toList args.toList ds p := hA0
  rw [Try.params4] at hA hval
  obtain ⟨v0, vs0, d0, ds0, p0, q0, hargs, rfl, rfl, h0, r0⟩ := trodAll_cons hA
  obtain ⟨v1, vs1, d1, ds1, p1, q1, rfl, rfl, rfl, h1, r1⟩ := trodAll_cons r0
  obtain ⟨v2, vs2, d2, ds2, p2, q2, rfl, rfl, rfl, h2, r2⟩ := trodAll_cons r1
  obtain ⟨rfl, rfl, rfl⟩ := trodAll_nil r2
  obtain rfl : args = #[v0, v1, v2] := by cases args; simp_all
  obtain ⟨rfl, rfl⟩ := trodVars_none hV
  obtain ⟨n, rfl, rfl, rfl, w0⟩ := open_int Try.underlying3 (hval 0 3 v0 rfl rfl) h0
  obtain ⟨sp, rfl, rfl, rfl, w2⟩ := open_int Try.underlying3 (hval 2 3 v2 rfl rfl) h2
  obtain ⟨ao, len, cap, K, S, RA, RL, RC, RV, rfl, hlen, hacts⟩ := acts_of (hval 1 22 v1 rfl rfl) h1
  refine (same_walk n ao len cap K S RA RL RC RV sp W hlen hacts).mono fun e W' ⟨he, hg⟩ => ?_
  subst he
  exact ⟨_, rfl, law_post laid hW' rfl (by decide +kernel) rfl rfl Try.underlying4 hg⟩

theorem over : Rows.asidSameRow.holds Try.pinned (OpenSpec.ofChange Rows.asidSameSpec) :=
  OpenClaim.holds_of_wide 4 Try.f4 rfl rfl rfl rfl rfl rfl rfl ⟨rfl, rfl, rfl, rfl, rfl⟩ rfl rfl rfl rfl rfl (by kernel_rfl) Try.func4 (by kernel_rfl)
    (of_decide_eq_true (by kernel_rfl)) (by unfold Func.isWrapper; first | (rw [if_pos (by decide +kernel)]; kernel_rfl) | (rw [if_neg (by decide +kernel)]; exact ⟨rfl, rfl⟩))
    (fun os started H enc _ => lifted os started H enc)
end asidSame

/-- THE STATEMENT. -/
theorem asidSame_proved : Rows.AsidSameSaid := asidSame.over
#print axioms asidSame_proved
end Go.Proofs.Ytbdphbkpglhhaaa
