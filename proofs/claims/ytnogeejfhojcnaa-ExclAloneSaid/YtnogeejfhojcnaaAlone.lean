/- Statement ExclAlone of layer 10: the law returns true at every input, and every argument reads as before. No conditions. -/
import Derived.Test.YtnogeejfhojcnaaA4
import Derived.Test.YtnogeejfhojcnaaPost
namespace Go.Proofs.Ytnogeejfhojcnaa
open Go.ChangeShapes Go.WideShapes Go.ChangeAt Go.RowKit

theorem tmod_bd (x : Int) (k : Int) (hk : 0 < k) : -k < x.tmod k ∧ x.tmod k < k := by
  have h1 := Int.lt_tmod_of_pos x hk
  have h2 := Int.tmod_lt_of_pos x hk
  exact ⟨h1, h2⟩

theorem lose_is (m : Nat → Option Int) (c p v : Int) (hit : Int → Bool) (hc : 1 ≤ c) : isB (lose (updm m (c.toNat - 1) (some v)) p hit (c.toNat - 1)) v = (p == c || !hit v) := by
  have e : (((c.toNat - 1 : Nat) : Int) ≠ p - 1) = (p ≠ c) := by
    apply propext; constructor <;> intro h h' <;> apply h <;> omega
  by_cases h : p = c
  · have e' : ((c.toNat - 1 : Nat) : Int) = p - 1 := by omega
    subst h
    simp only [isB, lose, updm, e', ne_eq, not_true, false_and, if_false, if_true]
    simp
  · cases hh : hit v <;> simp [isB, lose, updm, e, h, hh]

theorem alone_walk (a0 a1 a2 a3 a4 : Int) (w0 : 0 ≤ a0 ∧ a0 ≤ 18446744073709551615) (_w1 : 0 ≤ a1 ∧ a1 ≤ 18446744073709551615) (_w2 : -9223372036854775808 ≤ a2 ∧ a2 ≤ 9223372036854775807) (_w3 : -9223372036854775808 ≤ a3 ∧ a3 ≤ 9223372036854775807) (_w4 : -9223372036854775808 ≤ a4 ∧ a4 ≤ 9223372036854775807) (w : World) :
    Calls Try.prog 3 #[.int .u64 a0, .int .u64 a1, .int .i64 a2, .int .i64 a3, .int .i64 a4] w fun e w' => e = .returned (.bool true) ∧ Below w.heap.size w w' := by
  have t2 := tmod_bd a2 8 (by omega)
  have t3 := tmod_bd a3 8 (by omega)
  have t4 := tmod_bd a4 1048576 (by omega)
  have bc : 1 ≤ 1 + a2.tmod 8 % 8 ∧ 1 + a2.tmod 8 % 8 ≤ 8 := by omega
  have bp : 1 ≤ 1 + a3.tmod 8 % 8 ∧ 1 + a3.tmod 8 % 8 ≤ 8 := by omega
  have bf : 0 ≤ (a4.tmod 1048576 + 1048576) % 1048576 ∧ (a4.tmod 1048576 + 1048576) % 1048576 ≤ 1048576 := by omega
  go_enter Try.func3, Try.ntmps3
  go_wp2_with fail
  generalize 1 + a2.tmod 8 % 8 = c at *
  generalize 1 + a3.tmod 8 % 8 = p at *
  generalize (a4.tmod 1048576 + 1048576) % 1048576 = f at *
  refine (new_mon 8 _ (by omega) (by omega)).mono ?_
  rintro e w1 ⟨b, rfl, hm, hb, hB, hlt⟩
  have M1 := Lib.hid hm; have HB := Lib.hid hb; have B1 := Lib.hid hB
  clear hm hb hB t2 t3 t4
  obtain ⟨bc1, bc2⟩ := bc
  obtain ⟨bp1, bp2⟩ := bp
  obtain ⟨bf1, bf2⟩ := bf
  obtain ⟨w01, w02⟩ := w0
  go_wp2_with fail
  refine (set_ok b 8 c a0 _ _ M1.out bc1 bc2 (by omega) w01 w02).mono ?_
  rintro e w2 ⟨rfl, hm, hg⟩
  have M2 := Lib.hid hm; have B2 := Lib.hid (below_only B1.out hg (by have := HB.out; omega) B1.out.size)
  clear hm hg
  go_wp2_with fail
  refine (wrote_ok b 8 p a1 _ _ M2.out bp1 bp2 (by omega)).mono ?_
  rintro e w3 ⟨rfl, hm, hg⟩
  have M3 := Lib.hid hm; have B3 := Lib.hid (below_only B2.out hg (by have := HB.out; omega) B2.out.size)
  clear hm hg
  go_wp2_with fail
  refine (is_ok b 8 c a0 _ _ M3.out bc1 bc2 (by omega)).mono ?_
  rintro e w4 ⟨rfl, rfl⟩
  rw [lose_is _ c p a0 _ bc1]
  cases hx : (p == c) <;> cases hy : (a0 == a1) <;> cases hz : (a0 / 512 == f)
  all_goals
    have hy' : (a1 != a0) = !(a0 == a1) := by simp [bne, Bool.beq_comm]
    rw [hy] at hy'
    have hz' : (a0 / 512 != f) = !(a0 / 512 == f) := rfl
    rw [hz] at hz'
    simp only [Bool.or_false, Bool.or_true, Bool.not_true, Bool.not_false] at hy' hz' ⊢
    go_wp2_with fail
    refine (set_ok b 8 c a0 _ _ M3.out bc1 bc2 (by omega) w01 w02).mono ?_
    rintro e w5 ⟨rfl, hm, hg⟩
    have M5 := Lib.hid hm; have B5 := Lib.hid (below_only B3.out hg (by have := HB.out; omega) B3.out.size)
    clear hm hg
    go_wp2_with fail
    refine (block_ok b 8 p f _ _ M5.out bp1 bp2 (by omega) bf1 bf2).mono ?_
    rintro e w6 ⟨rfl, hm, hg⟩
    have M6 := Lib.hid hm; have B6 := Lib.hid (below_only B5.out hg (by have := HB.out; omega) B5.out.size)
    clear hm hg
    go_wp2_with fail
    refine (is_ok b 8 c a0 _ _ M6.out bc1 bc2 (by omega)).mono ?_
    rintro e w7 ⟨rfl, rfl⟩
    rw [lose_is _ c p a0 _ bc1]
    simp only [hx, hz, Bool.or_false, Bool.or_true, Bool.not_true, Bool.not_false]
    go_wp2_with fail
    refine (wakes_ok _).mono ?_
    rintro e w8 ⟨rfl, hb8⟩
    have B8 := Lib.hid hb8
    clear hb8
    go_wp2_with fail
    go_ret
    exact ⟨rfl, B6.out.trans (B8.out.mono B6.out.size)⟩

namespace exclAlone
theorem laid : laidOutB Try.prog = true := by kernel_rfl
theorem own : ownKnob Try.prog.godebug = none := by kernel_rfl
theorem lifted (os : Os) (started : os.Started) (H : Type) (enc : TypeId × Value → H) :
    ReturnsInHanded {} Try.checked os 3 .any (Rows.exclAloneSpec.pre6 enc Try.prog Try.f3 Rows.exclAloneRow.domain false) (Rows.exclAloneSpec.post enc Try.prog Try.f3 false true false false) := by
  refine returnsInHanded_of_change (C := Try.checked) own started (by kernel_rfl) Try.func3
    (ChangeSpec.witness6 (enc := enc) (C := Try.checked) false ⟨#[], #[.int .u64 0, .int .u64 0, .int .i64 0, .int .i64 0, .int .i64 0], []⟩ 8 (by kernel_rfl) (by kernel_rfl) (by kernel_rfl) (by kernel_rfl)) ?_
  intro W base args ds gs before hval0 hW hcnd _
  have hval : ∀ (j : Nat) t v, Try.f3.params[j]? = some t → args[j]? = some v → Value.okWide Try.prog W .any base t v := hval0
  have hW' := hW
  obtain ⟨p, q, hA0, hV, rfl, hfz, hnd⟩ := hW
  have hA : DataW.TrodAll enc Try.prog W 0 (fun _ => true) true Try.f3.params.toList args.toList ds p := hA0
  rw [Try.params3] at hA hval
  obtain ⟨v0, vs0, d0, ds0, p0, q0, hargs, rfl, rfl, h0, r0⟩ := trodAll_cons hA
  obtain ⟨v1, vs1, d1, ds1, p1, q1, rfl, rfl, rfl, h1, r1⟩ := trodAll_cons r0
  obtain ⟨v2, vs2, d2, ds2, p2, q2, rfl, rfl, rfl, h2, r2⟩ := trodAll_cons r1
  obtain ⟨v3, vs3, d3, ds3, p3, q3, rfl, rfl, rfl, h3, r3⟩ := trodAll_cons r2
  obtain ⟨v4, vs4, d4, ds4, p4, q4, rfl, rfl, rfl, h4, r4⟩ := trodAll_cons r3
  obtain ⟨rfl, rfl, rfl⟩ := trodAll_nil r4
  obtain rfl : args = #[v0, v1, v2, v3, v4] := by cases args; simp_all
  obtain ⟨rfl, rfl⟩ := trodVars_none hV
  obtain ⟨a0, rfl, rfl, rfl, w0⟩ := open_int Try.underlying22 (hval 0 22 v0 rfl rfl) h0
  obtain ⟨a1, rfl, rfl, rfl, w1⟩ := open_int Try.underlying22 (hval 1 22 v1 rfl rfl) h1
  obtain ⟨a2, rfl, rfl, rfl, w2⟩ := open_int Try.underlying3 (hval 2 3 v2 rfl rfl) h2
  obtain ⟨a3, rfl, rfl, rfl, w3⟩ := open_int Try.underlying3 (hval 3 3 v3 rfl rfl) h3
  obtain ⟨a4, rfl, rfl, rfl, w4⟩ := open_int Try.underlying3 (hval 4 3 v4 rfl rfl) h4
  clear hA0 hval0
  simp only [List.append_nil] at hW'
  refine (alone_walk a0 a1 a2 a3 a4 (Go.bounds_u64 w0) (Go.bounds_u64 w1) (Go.bounds_i64 w2) (Go.bounds_i64 w3) (Go.bounds_i64 w4) W).mono fun e W' ⟨he, hg⟩ => ?_
  subst he
  exact ⟨_, rfl, law_post laid hW' rfl (by decide +kernel) rfl rfl Try.underlying4 hg⟩

theorem over : Rows.exclAloneRow.holds Try.pinned (OpenSpec.ofChange Rows.exclAloneSpec) :=
  OpenClaim.holds_of_wide 3 Try.f3 rfl rfl rfl rfl rfl rfl rfl ⟨rfl, rfl, rfl, rfl, rfl⟩ rfl rfl rfl rfl rfl (by kernel_rfl) Try.func3 (by kernel_rfl)
    (of_decide_eq_true (by kernel_rfl)) (by unfold Func.isWrapper; first | (rw [if_pos (by decide +kernel)]; kernel_rfl) | (rw [if_neg (by decide +kernel)]; exact ⟨rfl, rfl⟩))
    (fun os started H enc _ => lifted os started H enc)
end exclAlone

/-- THE STATEMENT. -/
theorem exclAlone_proved : Rows.ExclAloneSaid := exclAlone.over
#print axioms exclAlone_proved
end Go.Proofs.Ytnogeejfhojcnaa
