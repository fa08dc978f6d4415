/- Statement AsidPlays of layer 17: the law returns true at every input, and every argument reads as before. No conditions. -/
import Derived.Test.YtbdphbkpglhhaaaC3
import Derived.Test.YtbdphbkpglhhaaaA8
import Derived.Test.YtbdphbkpglhhaaaPost
import Derived.Deep.Cut
import Derived.Deep.CutRange
import Derived.Deep.RegionWith
import Derived.Deep.RegionHeld3
namespace Go.Proofs.Ytbdphbkpglhhaaa
open Go.ChangeShapes Go.WideShapes Go.ChangeAt Go.RowKit
set_option linter.unusedVariables false

/-- A call that leaves the world is quiet. -/
theorem quietL {f : FuncId} {args : Array Value} {w : World} {n : Nat} {v : Value} (c : Calls Try.prog f args (w.drewN n) fun e w' => e = .returned v ∧ w.drewN n = w') :
    Calls Try.prog f args (w.drewN n) fun e w'' => e = .returned v ∧ ∃ m, w'' = w.drewN m := c.mono fun _ _ h => ⟨h.1, n, h.2.symm⟩
/-- Both givers, alike. -/
structure Both (w0 : World) (b r h N M : Nat) (age : Int) (g : Nat → Int) (w : World) : Prop where
  gi : Gi w b N age g
  rf : Rf w r h M age g
  be : Below w0.heap.size w0 w
  inj : Inj N g
  zero : g 0 = 0
  hh : w0.heap.size ≤ h
  nb : b ≠ h
theorem Both.drewN {w0 : World} {b r h N M : Nat} {age : Int} {g : Nat → Int} {w : World} (H : Both w0 b r h N M age g w) (n : Nat) : Both w0 b r h N M age g (w.drewN n) := ⟨H.gi, H.rf.drewN n, below_drewN H.be n, H.inj, H.zero, H.hh, H.nb⟩
theorem Both.alloc {w0 : World} {b r h N M : Nat} {age : Int} {g : Nat → Int} {w : World} (H : Both w0 b r h N M age g w) (o : Obj) : Both w0 b r h N M age g (w.alloc o) := ⟨H.gi.alloc o, H.rf.alloc o, H.be.alloc H.be.size o, H.inj, H.zero, H.hh, H.nb⟩
/-- The first giver alone has turned. -/
structure Half (w0 : World) (b r h N M : Nat) (age age' : Int) (g g' : Nat → Int) (w : World) : Prop where
  gi : Gi w b N age' g'
  rf : Rf w r h M age g
  be : Below w0.heap.size w0 w
  inj : Inj N g
  zero : g 0 = 0
  hh : w0.heap.size ≤ h
  nb : b ≠ h
theorem Both.half {w0 : World} {b r h N M : Nat} {age age' : Int} {g g' : Nat → Int} {w w' : World} (H : Both w0 b r h N M age g w) (hw : w0.heap.size ≤ b) (hbr : b ≠ r) (hg : Gi w' b N age' g') (hr : w.grownBy w' (some b)) : Half w0 b r h N M age age' g g' w' :=
  ⟨hg, ⟨only_block hr H.rf.gv (Ne.symm hbr), only_block hr H.rf.has (Ne.symm H.nb), H.rf.ne⟩, below_only H.be hr hw H.be.size, H.inj, H.zero, H.hh, H.nb⟩
theorem Half.full {w0 : World} {b r h h' N M : Nat} {age age' : Int} {g g' : Nat → Int} {w w' : World} (H : Half w0 b r h N M age age' g g' w) (hr : w0.heap.size ≤ r) (hbr : b ≠ r) (hg : Rf w' r h' M age' g') (ht : Two w w' r h) (hh : h' = h ∨ h' = w.heap.size) (hi : Inj N g') (hz : g' 0 = 0) : Both w0 b r h' N M age' g' w' :=
  ⟨ht.at H.gi hbr H.nb, hg, below_two H.be ht hr H.hh H.be.size, hi, hz, by
    rcases hh with rfl | rfl
    · exact H.hh
    · exact H.be.size, by
    rcases hh with rfl | rfl
    · exact H.nb
    · have := H.gi.lt; omega⟩

set_option maxHeartbeats 1000000 in
set_option maxRecDepth 100000 in
theorem plays_walk (n : Int) (ao : Option Addr) (len cap : Nat) (K S : Nat → Int) (RA : Nat → Option Addr) (RL RC : Nat → Nat) (RV : Nat → Nat → Int) (w : World) (hcap : len ≤ 9223372036854775807) (ha : Acts w ao len K S RA RL RC RV) :
    Calls Try.prog 5 #[.int .i64 n, .slice ao len cap] w fun e w' => e = .returned (.bool true) ∧ Below w.heap.size w w' := by
  have HA := Lib.hid ha
  clear ha
  go_enter Try.func5, Try.ntmps5
  go_wp2_with fail
  refine (great_ok ao len cap K S RA RL RC RV _ hcap HA.out).mono ?_
  rintro e w' ⟨G, rfl, hG, rfl⟩
  have HG := Lib.hid hG
  clear hG
  cases G
  · obtain ⟨h200, h20⟩ := HG.out rfl
    have H20 := Lib.hid h20
    clear HG h20
    by_cases hn : n < 2 ∨ 16 < n
    · have HN := Lib.hid hn
      clear hn
      go_wp2_with fail
      refine (new_bad n _ HN.out).mono ?_
      rintro e w1 ⟨rfl, rfl⟩
      go_wp2_with fail
      refine (rnew_bad n _ HN.out).mono ?_
      rintro e w1 ⟨rfl, rfl⟩
      go_wp2_with fail
      refine (wakes_ok _).mono ?_
      rintro e w8 ⟨rfl, hb8⟩
      have B8 := Lib.hid hb8
      clear hb8
      go_wp2_with fail
      go_ret
      exact ⟨rfl, B8.out⟩
    · obtain ⟨N, rfl⟩ : ∃ N : Nat, n = N := ⟨n.toNat, by omega⟩
      have hN2 : 2 ≤ N := by omega
      have hN : N ≤ 16 := by omega
      clear hn
      go_wp2_with fail
      refine (new_ok N _ (by omega) (by omega)).mono ?_
      rintro e w1 ⟨b, rfl, hm, hb, hB, hlt⟩
      have M1 := Lib.hid hm; have HB := Lib.hid hb; have B1 := Lib.hid hB
      clear hm hb hB
      go_wp2_with fail
      refine (rnew_ok N _ (by omega) (by omega)).mono ?_
      rintro e w2 ⟨rfl, hr2, hB2⟩
      have hbe1 := B1.out.size
      have F0 := Lib.hid (show Both w b (w1.heap.size + 1) w1.heap.size N (N + 1) 1 (fun _ => 0) w2 from ⟨M1.out.below hB2, hr2, B1.out.trans (hB2.mono B1.out.size), ⟨fun i j _ _ _ _ _ h => absurd rfl h, fun _ _ _ => ⟨Int.le_refl 0, by show (0 : Int) ≤ 6; omega⟩⟩, rfl, hbe1, by omega⟩)
      have hwd : w.heap.size ≤ b := by have := HB.out; omega
      clear hr2 hB2
      obtain ⟨M, hM⟩ : ∃ M, M = N + 1 := ⟨_, rfl⟩
      rw [← hM] at F0
      have HM := Lib.hid hM
      clear hM
      obtain ⟨r, hr⟩ : ∃ r, r = w1.heap.size + 1 := ⟨_, rfl⟩
      rw [← hr] at F0 ⊢
      have hbr : b < r := by omega
      have hwr : w.heap.size ≤ r := by omega
      clear hr
      go_wp2_with fail
      go_loopw [49] (fun i wr => ∃ (k h : Nat) (g : Nat → Int) (age : Int), k ≤ len ∧ i = .int .i64 k ∧ Both w b r h N M age g wr ∧ 0 ≤ age ∧ age ≤ k + 1) (fun i _ => len - (intOf i).toNat)
      case atStart => exact ⟨0, _, _, 1, by omega, rfl, F0.out, by omega, by omega⟩
      case round =>
        obtain ⟨k, h, g, age, hk, rfl, hf, hage0, hage1⟩ := hrel
        have HF := Lib.hid hf
        clear hf
        by_cases hlk : k < len
        · obtain ⟨ab, off, rfl, a⟩ := HA.out k hlk
          have a' := a.below HF.out.be
          have c0 := a'.c0
          have c1 := a'.c1
          have c2 := a'.c2
          have hl := H20.out k hlk
          have hwx := HF.out.be.size
          have hrx := lt_of_block HF.out.rf.gv
          have hhx := lt_of_block HF.out.rf.has
          have hbx := HF.out.gi.lt
          clear a a'
          have HACT := Lib.hid (show ∀ w', Below w.heap.size w w' → Run w' (RA k) (RL k) (RV k) from fun w' hb => by
            obtain ⟨ab', off', e, a⟩ := HA.out k hlk
            cases e
            exact (a.below hb).toRun)
          have HRR := Lib.hid (show ∀ q, w.heap.size ≤ q → ∀ rb off, RA k = some ⟨rb, off, none⟩ → 0 < RL k → rb ≠ q from fun q hq rb off e hl => by
            obtain ⟨rb', off', e', c⟩ := HACT.out w (Below.refl _ _) 0 hl
            rw [e] at e'
            cases e'
            have := block_lt_of_cell c
            simp at this
            omega)
          have HX := Lib.hid (show (wr.alloc (actb (K k) (S k) (RA k) (RL k) (RC k))).heap[wr.heap.size]? = some (actb (K k) (S k) (RA k) (RL k) (RC k)) from heap_alloc_new _ _)
          have HFa := Lib.hid (HF.out.alloc (actb (K k) (S k) (RA k) (RL k) (RC k)))
          go_upto_if 55 with fail
          clear c0 c1 c2
          obtain ⟨x, hx⟩ : ∃ x, x = wr.heap.size := ⟨_, rfl⟩
          go_cut [10] from 50 to 136 (fun s10 wx => s10 = .pointer (some ⟨wr.heap.size, 0, none⟩) ∧ ∃ (h' : Nat) (g' : Nat → Int) (age' : Int), Both w b r h' N M age' g' wx ∧ 0 ≤ age' ∧ age' ≤ k + 1 + 1 ∧ wx.heap[wr.heap.size]? = some (actb (K k) (S k) (RA k) (RL k) (RC k)))
          case first =>
            cases hK : (K k == 1)
            · obtain ⟨f0, f1, f2⟩ := actb_c HX.out
              go_wp2_with fail
              refine (ask_any b N age g (S k) (RA k) (RL k) (RC k) (RV k) _ HFa.out.gi hN hl (HACT.out _ HFa.out.be) hage0 (by omega)).mono ?_
              rintro e w3 ⟨rfl, hg3, hr3⟩
              have HH := Lib.hid (HFa.out.half hwd (by omega) hg3 hr3)
              have HX3 := Lib.hid (only_block hr3 HX.out (by omega))
              clear hg3 hr3 f0 f1 f2
              obtain ⟨f0, f1, f2⟩ := actb_c HX3.out
              go_wp2_with fail
              refine (rask_any r h N M age g (S k) (RA k) (RL k) (RC k) (RV k) _ HH.out.rf HM.out hN hl (HACT.out _ HH.out.be) (fun rb off e hp => ⟨HRR.out r hwr rb off e hp, HRR.out h HH.out.hh rb off e hp⟩) HH.out.zero hage0 (by omega)).mono ?_
              intro e w4 hp
              obtain ⟨rfl, h', hr4, hh4, ht4⟩ := hp
              have ht := askT_bd' N g (S k) (RV k) (RL k) age
              have HF4 := Lib.hid (HH.out.full hwr (by omega) hr4 ht4 hh4 (askG_inj HH.out.inj hN _ _ _) (askG_zero HH.out.zero _ _ _ hN))
              have HX4 := Lib.hid (ht4.at HX3.out (by omega) (by omega))
              clear hr4 hh4 ht4 f0 f1 f2
              go_wp2_with fail
              go_meet
              case rel => exact ⟨rfl, h', _, _, HF4.out, by omega, by omega, HX4.out⟩
            · obtain ⟨f0, f1, f2⟩ := actb_c HX.out
              go_wp2_with fail
              go_region_held3 (fun wv => wv.cell? ⟨wr.heap.size, 1, none⟩ = some (.int .i64 (S k))) (go_keep) (first
                | (go_at_call 10; refine (gone_ok b N age g (S k) _ ?_ hN).mono ?_; exact HFa.out.gi; rintro e w3 ⟨rfl, hg3, hr3⟩; have HH := Lib.hid (Both.half (HFa.out.drewN 1) hwd (by omega) hg3 hr3); have HX3 := Lib.hid (only_block hr3 HX.out (by omega)); have hk3 := (actb_c HX3.out).2.1; clear hg3 hr3)
                | (go_at_call 15; refine (rgone_ok r h N M age g (S k) _ ?_ HM.out hN HFa.out.inj).mono ?_; exact HH.out.rf; rintro e w4 ⟨rfl, hr4, ht4⟩; have HF4 := Lib.hid (Half.full HH.out hwr (by omega) hr4 ht4 (.inl rfl) (gone_inj HH.out.inj _) (goneG_zero HH.out.zero _)); have HX4 := Lib.hid (ht4.at HX3.out (by omega) (by omega)); have hk4 := (actb_c HX4.out).2.1; clear hr4 ht4))
              all_goals
                go_wp2_with fail
                go_meet
                case rel => exact ⟨rfl, h, _, _, HF4.out, by omega, by omega, HX4.out⟩
          case rest =>
            obtain ⟨rfl, h', g', age', hf5, ha0, ha1, hx5⟩ := hcut
            have HF5 := Lib.hid hf5; have HX5 := Lib.hid hx5
            clear hf5 hx5 HX HFa HF
            obtain ⟨f0, f1, f2⟩ := actb_c HX5.out
            go_wp2_with fail
            refine (of_ok b N age' g' (S k) _ HF5.out.gi hN).mono ?_
            rintro e w' ⟨rfl, rfl⟩
            go_wp2_with fail
            refine (rof_ok r h' N M age' g' (S k) _ HF5.out.rf HM.out hN).mono ?_
            rintro e w' ⟨rfl, rfl⟩
            have e1 := HF5.out.rf.c1
            go_wp2_with fail
            go_quiet (first | (go_at_call 12; exact quietL (age_ok b N age' g' _ HF5.out.gi)) | (go_at_call 18; exact quietL (free_ok b N age' g' _ HF5.out.gi hN)) | (go_at_call 19; exact quietL (rfree_ok r h' N M age' g' _ (HF5.out.rf.drewN _) HM.out hN)))
            go_wp2_with fail
            go_roundw
            case rel => exact ⟨k + 1, h', g', age', by omega, by go_num, HF5.out.drewN _, ha0, ha1⟩
            case measure => simp [intOf]; omega
        · go_wp2_with fail
          refine (wakes_ok _).mono ?_
          rintro e w8 ⟨rfl, hb8⟩
          have B8 := Lib.hid hb8
          clear hb8
          go_wp2_with fail
          go_ret
          exact ⟨rfl, HF.out.be.trans (B8.out.mono HF.out.be.size)⟩
  · clear HG
    go_wp2_with fail
    refine (wakes_ok _).mono ?_
    rintro e w8 ⟨rfl, hb8⟩
    have B8 := Lib.hid hb8
    clear hb8
    go_wp2_with fail
    go_ret
    exact ⟨rfl, B8.out⟩

namespace asidPlays
theorem laid : laidOutB Try.prog = true := by kernel_rfl
theorem own : ownKnob Try.prog.godebug = none := by kernel_rfl
theorem lifted (os : Os) (started : os.Started) (H : Type) (enc : TypeId × Value → H) :
    ReturnsInHanded {} Try.checked os 5 .any (Rows.asidPlaysSpec.pre6 enc Try.prog Try.f5 Rows.asidPlaysRow.domain false) (Rows.asidPlaysSpec.post enc Try.prog Try.f5 false true false false) := by
  refine returnsInHanded_of_change (C := Try.checked) own started (by kernel_rfl) Try.func5
    (ChangeSpec.witness6 (enc := enc) (C := Try.checked) false ⟨#[], #[.int .i64 0, .slice none 0 0], []⟩ 8 (by kernel_rfl) (by kernel_rfl) (by kernel_rfl) (by kernel_rfl)) ?_
  intro W base args ds gs before hval0 hW hcnd _
  have hval : ∀ (j : Nat) t v, Try.f5.params[j]? = some t → args[j]? = some v → Value.okWide Try.prog W .any base t v := hval0
  have hW' := hW
  obtain ⟨p, q, hA0, hV, rfl, hfz, hnd⟩ := hW
  have hA : DataW.TrodAll enc Try.prog W 0 (fun _ => true) true Try.f5.params.toList args.toList ds p := hA0
  rw [Try.params5] at hA hval
  obtain ⟨v0, vs0, d0, ds0, p0, q0, hargs, rfl, rfl, h0, r0⟩ := trodAll_cons hA
  obtain ⟨v1, vs1, d1, ds1, p1, q1, rfl, rfl, rfl, h1, r1⟩ := trodAll_cons r0
  obtain ⟨rfl, rfl, rfl⟩ := trodAll_nil r1
  obtain rfl : args = #[v0, v1] := by cases args; simp_all
  obtain ⟨rfl, rfl⟩ := trodVars_none hV
  obtain ⟨n, rfl, rfl, rfl, w0⟩ := open_int Try.underlying3 (hval 0 3 v0 rfl rfl) h0
  obtain ⟨ao, len, cap, K, S, RA, RL, RC, RV, rfl, hlen, hacts⟩ := acts_of (hval 1 22 v1 rfl rfl) h1
  refine (plays_walk n ao len cap K S RA RL RC RV W hlen hacts).mono fun e W' ⟨he, hg⟩ => ?_
  subst he
  exact ⟨_, rfl, law_post laid hW' rfl (by decide +kernel) rfl rfl Try.underlying4 hg⟩

theorem over : Rows.asidPlaysRow.holds Try.pinned (OpenSpec.ofChange Rows.asidPlaysSpec) :=
  OpenClaim.holds_of_wide 5 Try.f5 rfl rfl rfl rfl rfl rfl rfl ⟨rfl, rfl, rfl, rfl, rfl⟩ rfl rfl rfl rfl rfl (by kernel_rfl) Try.func5 (by kernel_rfl)
    (of_decide_eq_true (by kernel_rfl)) (by unfold Func.isWrapper; first | (rw [if_pos (by decide +kernel)]; kernel_rfl) | (rw [if_neg (by decide +kernel)]; exact ⟨rfl, rfl⟩))
    (fun os started H enc _ => lifted os started H enc)
end asidPlays

/-- THE STATEMENT. -/
theorem asidPlays_proved : Rows.AsidPlaysSaid := asidPlays.over
#print axioms asidPlays_proved
end Go.Proofs.Ytbdphbkpglhhaaa
