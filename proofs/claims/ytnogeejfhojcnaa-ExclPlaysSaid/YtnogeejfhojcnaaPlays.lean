/- Statement ExclPlays of layer 10: the law returns true at every input, and every argument reads as before. No conditions. -/
import Derived.Test.YtnogeejfhojcnaaP1
import Derived.Test.YtnogeejfhojcnaaShape
import Derived.Deep.Slices
import Derived.Deep.Fields
namespace Go.Proofs.Ytnogeejfhojcnaa
open Go.ChangeShapes Go.WideShapes Go.ChangeAt Go.RowKit
set_option linter.unusedVariables false

/-- Act k of a slice: its nine cells. -/
structure ActAt (w : World) (b off k : Nat) (dd co wo fo kd wd vl fr fm : Int) : Prop where
  lt : b < w.heap.size
  c0 : w.cell? ⟨b, off + k * 9, none⟩ = some (.int .i64 dd)
  c1 : w.cell? ⟨b, off + k * 9 + 1, none⟩ = some (.int .i64 co)
  c2 : w.cell? ⟨b, off + k * 9 + 2, none⟩ = some (.int .u64 wo)
  c3 : w.cell? ⟨b, off + k * 9 + 3, none⟩ = some (.int .i64 fo)
  c4 : w.cell? ⟨b, off + k * 9 + 4, none⟩ = some (.int .i8 kd)
  c5 : w.cell? ⟨b, off + k * 9 + 5, none⟩ = some (.int .u64 wd)
  c6 : w.cell? ⟨b, off + k * 9 + 6, none⟩ = some (.int .u64 vl)
  c7 : w.cell? ⟨b, off + k * 9 + 7, none⟩ = some (.int .i64 fr)
  c8 : w.cell? ⟨b, off + k * 9 + 8, none⟩ = some (.int .i64 fm)
  w0 : 0 ≤ wo
  w1 : wo ≤ 18446744073709551615

theorem plays_walk (n : Int) (ao : Option Addr) (len cap : Nat) (w : World) (hlen : len ≤ cap) (hcap : cap ≤ 9223372036854775807)
    (hz : ∀ k, k < len → ∃ b off dd co wo fo kd wd vl fr fm, ao = some ⟨b, off, none⟩ ∧ ActAt w b off k dd co wo fo kd wd vl fr fm) :
    Calls Try.prog 5 #[.int .i64 n, .slice ao len cap] w fun e w' => e = .returned (.bool true) ∧ Below w.heap.size w w' := by
  have HZ := Lib.hid hz
  clear hz
  by_cases h300 : 300 < len
  · have hd : decide ((300 : Int) < (len : Int)) = true := by simp; omega
    go_enter Try.func5, Try.ntmps5
    go_wp2_with fail
    refine (wakes_ok _).mono ?_
    rintro e w8 ⟨rfl, hb8⟩
    have B8 := Lib.hid hb8
    clear hb8
    go_wp2_with fail
    go_ret
    exact ⟨rfl, B8.out⟩
  have hd : decide ((300 : Int) < (len : Int)) = false := by simp; omega
  by_cases hn : n < 1 ∨ 8 < n
  · have HN := Lib.hid hn
    clear hn
    go_enter Try.func5, Try.ntmps5
    go_wp2_with fail
    refine (new_bad n _ HN.out).mono ?_
    rintro e w1 ⟨rfl, rfl⟩
    go_wp2_with fail
    refine (rnew_bad n _ HN.out).mono ?_
    rintro e w1 ⟨rfl, rfl⟩
    by_cases hlen0 : 0 < len
    · go_wp2_with fail
      go_loopw [9] (fun i wr => i = .int .i64 0 ∧ wr = w) (fun _ _ => 0)
      case atStart => exact ⟨rfl, rfl⟩
      case round =>
        obtain ⟨rfl, rfl⟩ := hrel
        go_wp2_with fail
        refine (wakes_ok _).mono ?_
        rintro e w8 ⟨rfl, hb8⟩
        have B8 := Lib.hid hb8
        clear hb8
        go_wp2_with fail
        go_ret
        exact ⟨rfl, B8.out⟩
    · go_wp2_with fail
      go_loopw [9] (fun i wr => i = .int .i64 0 ∧ wr = w) (fun _ _ => 0)
      case atStart => exact ⟨rfl, rfl⟩
      case round =>
        obtain ⟨rfl, rfl⟩ := hrel
        go_wp2_with fail
        refine (wakes_ok _).mono ?_
        rintro e w8 ⟨rfl, hb8⟩
        have B8 := Lib.hid hb8
        clear hb8
        go_wp2_with fail
        go_ret
        exact ⟨rfl, B8.out⟩
  · have hn1 : 1 ≤ n := by omega
    have hn8 : n ≤ 8 := by omega
    clear hn
    go_enter Try.func5, Try.ntmps5
    go_wp2_with fail
    refine (new_mon n _ hn1 hn8).mono ?_
    rintro e w1 ⟨b, rfl, hm, hb, hB, hlt⟩
    have M1 := Lib.hid hm; have HB := Lib.hid hb; have B1 := Lib.hid hB
    clear hm hb hB
    go_wp2_with fail
    refine (rnew n _ hn1 hn8).mono ?_
    rintro e w2 ⟨r, rfl, hm, hb, hB, hlt2⟩
    have R2 := Lib.hid hm; have HB2 := Lib.hid hb; have B2 := Lib.hid hB
    have M2 := Lib.hid (M1.out.kept fun i _ _ hi _ => hB.block i (lt_of_block hi))
    clear hm hb hB
    go_wp2_with fail
    go_loopw [9] (fun i wr => ∃ (k : Nat) (m : Nat → Option Int), k ≤ len ∧ i = .int .i64 k ∧ Mon wr b n m ∧ Ref wr r n m ∧ (∀ j : Nat, n ≤ j → m j = none) ∧ Below w.heap.size w wr) (fun i _ => len - (intOf i).toNat)
    case atStart => exact ⟨0, _, by omega, rfl, M2.out, R2.out, fun _ _ => rfl, B1.out.trans (B2.out.mono B1.out.size)⟩
    case round =>
      obtain ⟨k, m, hk, rfl, hm, hr, hmz, hbe⟩ := hrel
      have HM := Lib.hid hm; have HR := Lib.hid hr; have HMZ := Lib.hid hmz; have HE := Lib.hid hbe
      clear hm hr hmz hbe
      by_cases hlk : k < len
      · obtain ⟨ba, off, dd, co, wo, fo, kd, wd, vl, fr, fm, rfl, ha⟩ := HZ.out k hlk
        have c0 := (HE.out.cell (p := ⟨ba, off + k * 9, none⟩) ha.lt).trans ha.c0
        have c1 := (HE.out.cell (p := ⟨ba, off + k * 9 + 1, none⟩) ha.lt).trans ha.c1
        have c2 := (HE.out.cell (p := ⟨ba, off + k * 9 + 2, none⟩) ha.lt).trans ha.c2
        have c3 := (HE.out.cell (p := ⟨ba, off + k * 9 + 3, none⟩) ha.lt).trans ha.c3
        have c4 := (HE.out.cell (p := ⟨ba, off + k * 9 + 4, none⟩) ha.lt).trans ha.c4
        have c5 := (HE.out.cell (p := ⟨ba, off + k * 9 + 5, none⟩) ha.lt).trans ha.c5
        have c6 := (HE.out.cell (p := ⟨ba, off + k * 9 + 6, none⟩) ha.lt).trans ha.c6
        have c7 := (HE.out.cell (p := ⟨ba, off + k * 9 + 7, none⟩) ha.lt).trans ha.c7
        have c8 := (HE.out.cell (p := ⟨ba, off + k * 9 + 8, none⟩) ha.lt).trans ha.c8
        have HA := Lib.hid ha
        clear ha
        go_wp2_with fail
        clear c0 c1 c2 c3 c4 c5 c6 c7 c8
        refine (step_any b r n dd co wo fo kd wd vl fr fm m w.heap.size w _ HM.out HR.out (by have := HB.out; omega) (by have := HB2.out; have := B1.out.size; omega) HE.out HE.out.size hn1 hn8 HA.out.w0 HA.out.w1 HMZ.out).mono ?_
        rintro e w3 ⟨rfl, hm3, hr3, hb3⟩
        have HM3 := Lib.hid hm3; have HR3 := Lib.hid hr3; have HE3 := Lib.hid hb3
        have HMZ3 := Lib.hid (nAct_none (dd := dd) (co := co) (wo := wo) (fo := fo) (k := kd) (wd := wd) (fm := fm) HMZ.out)
        clear hm3 hr3 hb3
        generalize nAct n dd co wo fo kd wd fm m = m3 at *
        go_wp2_with fail
        obtain ⟨wo', rfl⟩ : ∃ wo' : World, wo' = wr := ⟨_, rfl⟩
        go_loopw [10] (fun i wr => ∃ (c : Nat), c ≤ 10 ∧ i = .int .i64 c ∧ Mon wr b n m3 ∧ Ref wr r n m3 ∧ Below w.heap.size w wr) (fun i _ => 10 - (intOf i).toNat)
        case atStart => exact ⟨0, by omega, rfl, HM3.out, HR3.out, HE3.out⟩
        case round =>
          obtain ⟨c, hc, rfl, hm4, hr4, hb4⟩ := hrel
          have HM4 := Lib.hid hm4; have HR4 := Lib.hid hr4; have HE4 := Lib.hid hb4
          clear hm4 hr4 hb4
          by_cases hc9 : c ≤ 9
          · go_wp2_with fail
            refine (xof b n c m3 _ HM4.out hn8).mono ?_
            rintro e w5 ⟨rfl, rfl⟩
            go_wp2_with fail
            refine (rof r n c m3 _ HR4.out hn8).mono ?_
            rintro e w5 ⟨rfl, hr5, hg5⟩
            have HR5 := Lib.hid hr5; have HM5 := Lib.hid (HM4.out.only HR4.out hg5); have HE5 := Lib.hid (below_only HE4.out hg5 (by have := HB2.out; have := B1.out.size; omega) HE4.out.size)
            clear hr5 hg5
            go_wp2_with fail
            go_roundw
            case rel => exact ⟨c + 1, by omega, by go_num, HM5.out, HR5.out, HE5.out⟩
            case measure => simp [intOf]; omega
          · go_wp2_with fail
            go_roundw
            case rel => exact ⟨k + 1, m3, by omega, by go_num, HM4.out, HR4.out, HMZ3.out, HE4.out⟩
            case measure => simp [intOf]; omega
      · go_wp2_with fail
        refine (wakes_ok _).mono ?_
        rintro e w8 ⟨rfl, hb8⟩
        have B8 := Lib.hid hb8
        clear hb8
        go_wp2_with fail
        go_ret
        exact ⟨rfl, HE.out.trans (B8.out.mono HE.out.size)⟩

/-- An address whose first cell is there has no spot. -/
theorem add_cell {w : World} {a : Addr} {i : Nat} {v : Value} (h : w.cell? (a.add i) = some v) (hs : a.spot = none) : w.cell? ⟨a.block, a.off + i, none⟩ = some v := by
  obtain ⟨b, o, s⟩ := a
  simp only at hs
  subst hs
  rw [← Go.WideShapes.add_plain]
  exact h

namespace exclPlays
theorem laid : laidOutB Try.prog = true := by kernel_rfl
theorem own : ownKnob Try.prog.godebug = none := by kernel_rfl
theorem lifted (os : Os) (started : os.Started) (H : Type) (enc : TypeId × Value → H) :
    ReturnsInHanded {} Try.checked os 5 .any (Rows.exclPlaysSpec.pre6 enc Try.prog Try.f5 Rows.exclPlaysRow.domain false) (Rows.exclPlaysSpec.post enc Try.prog Try.f5 false true false false) := by
  refine returnsInHanded_of_change (C := Try.checked) own started (by kernel_rfl) Try.func5
    (ChangeSpec.witness6 (enc := enc) (C := Try.checked) false ⟨#[], #[.int .i64 0, .slice none 0 0], []⟩ 8 (by kernel_rfl) (by kernel_rfl) (by kernel_rfl) (by kernel_rfl)) ?_
  intro W base args ds gs before hval0 hW hcnd _
  have hval : ∀ (j : Nat) t v, Try.f5.params[j]? = some t → args[j]? = some v → Value.okWide Try.prog W .any base t v := hval0
  have hW' := hW
  obtain ⟨p, q, hA0, hV, rfl, hfz, hnd⟩ := hW
  have hA : DataW.TrodAll enc Try.prog W 0 (fun _ => true) true Try.f5.params.toList args.toList ds p := hA0
  rw [Try.params5] at hA hval
  obtain ⟨v0, vs0, d0, ds0, p0, q0, hargs, rfl, rfl, h0, r0⟩ := trodAll_cons hA
  obtain ⟨v1, vs1, d1, ds1, p1, q1, rfl, rfl, rfl, h1, r1⟩ := trodAll_cons r0
  obtain ⟨rfl, rfl, rfl⟩ := trodAll_nil r1
  obtain rfl : args = #[v0, v1] := by cases args; simp_all
  obtain ⟨rfl, rfl⟩ := trodVars_none hV
  obtain ⟨a0, rfl, rfl, rfl, w0⟩ := open_int Try.underlying3 (hval 0 3 v0 rfl rfl) h0
  obtain ⟨ao, len, cap, rfl⟩ := okWide_slice Try.underlying37 (hval 1 37 v1 rfl rfl)
  have fin : len ≤ cap → cap ≤ 9223372036854775807 → (∀ k, k < len → ∃ b off dd co wo fo kd wd vl fr fm, ao = some ⟨b, off, none⟩ ∧ ActAt W b off k dd co wo fo kd wd vl fr fm) →
      Calls Try.prog 5 #[.int .i64 a0, .slice ao len cap] W fun e W' => ∃ v, e = .returned v ∧ Rows.exclPlaysSpec.post enc Try.prog Try.f5 false true false false W #[.int .i64 a0, .slice ao len cap] v W' := fun h1 h2 h3 =>
    (plays_walk a0 ao len cap W h1 h2 h3).mono fun e W' ⟨he, hg⟩ => ⟨_, he, law_post laid hW' rfl (by decide +kernel) rfl rfl Try.underlying4 hg⟩
  obtain ⟨fuel, hf⟩ := h1
  rcases Go.Deep.open_slice Try.underlying37 hf with ⟨hcs, hx⟩ | ⟨a, len', cap', m, n, D, Pl, hcs, _, hl, hm, hmm, hx, hel⟩
  · simp [Value.cells] at hcs
    obtain ⟨rfl, rfl, rfl⟩ := hcs
    exact fin (Nat.le_refl _) (Nat.zero_le _) (fun k hk => absurd hk (Nat.not_lt_zero _))
  · simp [Value.cells] at hcs
    obtain ⟨rfl, rfl, rfl⟩ := hcs
    refine fin hl hm (fun k hk => ?_)
    have hmc : m = cap := by simpa using hmm
    obtain ⟨cs, hc, ht⟩ := hel k (by omega)
    obtain ⟨dd, co, wo, fo, kd, wd, vl, fr, fm, rfl, x0, x1, x2, x3, x4, x5, x6, x7, x8⟩ := act_cells ht
    rw [c46] at hc
    obtain ⟨_, _, hat⟩ := World.cells?_some hc
    have g : ∀ i, i < 9 → W.cell? ((a.add (k * 9)).add i) = [Value.int .i64 dd, .int .i64 co, .int .u64 wo, .int .i64 fo, .int .i8 kd, .int .u64 wd, .int .u64 vl, .int .i64 fr, .int .i64 fm][i]? := hat
    simp only [Go.Deep.add_add] at g
    have hsp : a.spot = none := by
      obtain ⟨_, hc0, _⟩ := hel 0 (by omega)
      rw [c46] at hc0
      obtain ⟨_, hl0, hat0⟩ := World.cells?_some hc0
      have h00 := hat0 0 (by omega)
      have hsome : ∃ v, W.cell? a = some v := by
        have e : (a.add (0 * 9)).add 0 = a := by simp [Addr.add]
        rw [e] at h00
        exact ⟨_, h00.trans (List.getElem?_eq_getElem (by omega))⟩
      obtain ⟨v, hv⟩ := hsome
      exact World.cell?_spot hv
    have g' : ∀ i v, i < 9 → [Value.int .i64 dd, .int .i64 co, .int .u64 wo, .int .i64 fo, .int .i8 kd, .int .u64 wd, .int .u64 vl, .int .i64 fr, .int .i64 fm][i]? = some v → W.cell? ⟨a.block, a.off + k * 9 + i, none⟩ = some v := fun i v hi hv => by
      have := add_cell ((g i hi).trans hv) hsp
      rwa [← Nat.add_assoc] at this
    have z0 := g' 0 _ (by omega) rfl
    obtain ⟨b, off, s⟩ := a
    simp only at hsp
    subst hsp
    exact ⟨b, off, dd, co, wo, fo, kd, wd, vl, fr, fm, rfl, by
      rcases Nat.lt_or_ge b W.heap.size with h' | h'
      · exact h'
      · simp [World.cell?, Array.getElem?_eq_none h'] at z0, z0, g' 1 _ (by omega) rfl, g' 2 _ (by omega) rfl, g' 3 _ (by omega) rfl, g' 4 _ (by omega) rfl, g' 5 _ (by omega) rfl, g' 6 _ (by omega) rfl, g' 7 _ (by omega) rfl, g' 8 _ (by omega) rfl, (Go.bounds_u64 x2).1, (Go.bounds_u64 x2).2⟩

theorem over : Rows.exclPlaysRow.holds Try.pinned (OpenSpec.ofChange Rows.exclPlaysSpec) :=
  OpenClaim.holds_of_wide 5 Try.f5 rfl rfl rfl rfl rfl rfl rfl ⟨rfl, rfl, rfl, rfl, rfl⟩ rfl rfl rfl rfl rfl (by kernel_rfl) Try.func5 (by kernel_rfl)
    (of_decide_eq_true (by kernel_rfl)) (by unfold Func.isWrapper; first | (rw [if_pos (by decide +kernel)]; kernel_rfl) | (rw [if_neg (by decide +kernel)]; exact ⟨rfl, rfl⟩))
    (fun os started H enc _ => lifted os started H enc)
end exclPlays

/-- THE STATEMENT. -/
theorem exclPlays_proved : Rows.ExclPlaysSaid := exclPlays.over
#print axioms exclPlays_proved
end Go.Proofs.Ytnogeejfhojcnaa
