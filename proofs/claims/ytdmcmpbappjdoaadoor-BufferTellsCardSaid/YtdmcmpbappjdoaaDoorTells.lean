/- Statement BufferTells of layer 9: the law returns true at every input, and every argument reads as before. The package variable kinds reads as its initialiser lays it (tied to the program's text). -/
import Derived.Test.YtdmcmpbappjdoaaDoorT6
import Derived.Test.YtdmcmpbappjdoaaDoorShape
import Derived.Test.YtdmcmpbappjdoaaDoorCards
import Derived.Test.YtdmcmpbappjdoaaDoorTie
namespace Go.Proofs.YtdmcmpbappjdoaaDoor
open Go.ChangeShapes Go.WideShapes Go.ChangeAt Go.RowKit
set_option linter.unusedVariables false

theorem ent_of {H : Type} {enc : TypeId × Value → H} {w : World} {v : Value} {d : DataW H} {ps : List MemPlace} {r : Reach} {b0 : Nat} (hv : Value.okWide Tryd.prog w r b0 31 v) (h : DataW.Trod enc Tryd.prog w 0 (fun _ => true) true 31 v d ps) :
    ∃ e : Ent, v = e.agg ∧ e.ok := by
  obtain ⟨cs, rfl, _⟩ := okWide_struct Tryd.underlying31 hv
  obtain ⟨fuel, hf⟩ := h
  obtain ⟨e, hcs, hok⟩ := entry_cells hf
  refine ⟨e, ?_, hok⟩
  have hl : cs.toList = _ := hcs
  obtain rfl : cs = #[.int .i8 e.k, .int .u64 e.wd, .int .u64 e.v, .int .i64 e.fr, .int .i64 e.fm] := by
    cases cs; simp_all
  rfl

namespace bufferTells
theorem laid : laidOutB Tryd.prog = true := by kernel_rfl
theorem own : ownKnob Tryd.prog.godebug = none := by kernel_rfl
set_option maxRecDepth 100000 in
theorem lifted (os : Os) (started : os.Started) (H : Type) (enc : TypeId × Value → H) :
    ReturnsInHanded {} Tryd.checked os 6 .any (fun w args => (Rows.bufferTellsSpec.pre enc Tryd.prog Tryd.f6 [] false w args ∧ laidMetH Tryd.prog laidK w) ∧ sizedMet enc Tryd.prog Tryd.f6 (OpenSpec.ofChange Rows.bufferTellsSpec) false w args)
      (Rows.bufferTellsSpec.post enc Tryd.prog Tryd.f6 false true false false) := by
  refine returnsInHanded_of_change_and (C := Tryd.checked) (X := fun w _ => laidMetH Tryd.prog laidK w) (fun _ _ _ hh h => h.of_heap hh) own started (by kernel_rfl) Tryd.func6
    (ChangeSpec.witness_shaped (enc := enc) (C := Tryd.checked) (os := os) (X := fun w _ => laidMetH Tryd.prog laidK w) false (World.doorLaid Tryd.prog 18 os) #[.slice none 0 0, .agg #[.int .i8 0, .int .u64 0, .int .u64 0, .int .i64 0, .int .i64 0], .agg #[.int .i8 0, .int .u64 0, .int .u64 0, .int .i64 0, .int .i64 0], .int .i64 0, .int .u64 0] 8 rfl (World.shaped_of_RefB (by kernel_rfl) (by kernel_rfl)) (by kernel_rfl) (by kernel_rfl) (by kernel_rfl) (door_met os _)) ?_
  intro W base args ds gs before hval0 hW _ _ hL _
  have hval : ∀ (j : Nat) t v, Tryd.f6.params[j]? = some t → args[j]? = some v → Value.okWide Tryd.prog W .any base t v := hval0
  have hW' := hW
  obtain ⟨p, q, hA0, hV, rfl, hfz, hnd⟩ := hW
  have hA : DataW.TrodAll enc Tryd.prog W 0 (fun _ => true) true Tryd.f6.params.toList args.toList ds p := hA0
  rw [Tryd.params6] at hA hval
  obtain ⟨v0, vs0, d0, ds0, p0, q0, hargs, rfl, rfl, h0, r0⟩ := trodAll_cons hA
  obtain ⟨v1, vs1, d1, ds1, p1, q1, rfl, rfl, rfl, h1, r1⟩ := trodAll_cons r0
  obtain ⟨v2, vs2, d2, ds2, p2, q2, rfl, rfl, rfl, h2, r2⟩ := trodAll_cons r1
  obtain ⟨v3, vs3, d3, ds3, p3, q3, rfl, rfl, rfl, h3, r3⟩ := trodAll_cons r2
  obtain ⟨v4, vs4, d4, ds4, p4, q4, rfl, rfl, rfl, h4, r4⟩ := trodAll_cons r3
  obtain ⟨rfl, rfl, rfl⟩ := trodAll_nil r4
  obtain rfl : args = #[v0, v1, v2, v3, v4] := by cases args; simp_all
  obtain ⟨rfl, rfl⟩ := trodVars_none hV
  obtain ⟨ao, n, cap, l, rfl, hn, hc, hcc, hz, he, ho⟩ := ents_of (hval 0 22 v0 rfl rfl) h0
  obtain ⟨a, rfl, hok1⟩ := ent_of (hval 1 31 v1 rfl rfl) h1
  obtain ⟨b, rfl, hok2⟩ := ent_of (hval 2 31 v2 rfl rfl) h2
  obtain ⟨k, rfl, rfl, rfl, w3⟩ := open_int Tryd.underlying3 (hval 3 3 v3 rfl rfl) h3
  obtain ⟨wd, rfl, rfl, rfl, w4⟩ := open_int Tryd.underlying28 (hval 4 28 v4 rfl rfl) h4
  have hwd := bounds_u64 w4
  have hk := kinds_of hL
  refine (tells_walk ao cap l n a b k wd W hn hc hcc hz hok1 hok2 hwd.1 hwd.2 hk he ho).mono fun e W' ⟨he, hg⟩ => ?_
  subst he
  exact ⟨_, rfl, law_post laid hW' rfl (by decide +kernel) rfl rfl Tryd.underlying4 hg⟩

theorem over : Rows.bufferTellsRow.holds Tryd.pinned (OpenSpec.ofChange Rows.bufferTellsSpec) :=
  OpenClaim.holds_of_wide 6 Tryd.f6 rfl rfl rfl rfl rfl rfl rfl ⟨rfl, rfl, rfl, rfl, rfl⟩ rfl rfl rfl rfl rfl (by kernel_rfl) Tryd.func6 (by kernel_rfl)
    (of_decide_eq_true (by kernel_rfl)) (by unfold Func.isWrapper; first | (rw [if_pos (by decide +kernel)]; kernel_rfl) | (rw [if_neg (by decide +kernel)]; exact ⟨rfl, rfl⟩))
    (fun os started H enc _ => lifted os started H enc)
end bufferTells

/-- THE STATEMENT: the tied card. -/
theorem bufferTells_proved : Rows.BufferTellsCardSaid :=
  Claim7.holds_tied_plain_at .later [] [.data] true (true, "1812fa4e4427ba4c974eeeffb4956a9f2b328edb398a7e572adffd0c6ab5d111") false
    bufferTells.over (fun _ h => by cases h) (by kernel_rfl) (fun _ h => by cases h) bufferTells_row_tie rfl ⟨rfl, rfl⟩ (by kernel_rfl) rfl
    (fun f fn hf hfn => by
      obtain rfl : f = 6 := Option.some.inj ((show Tryd.prog.funcNamed "tenement/tenementlaw09.BufferTells" = some 6 by kernel_rfl).symm.trans hf) |>.symm
      obtain rfl : fn = Tryd.f6 := (Option.some.inj (Tryd.func6.symm.trans hfn)).symm
      exact ⟨by kernel_rfl, fun j t ht => by
        rw [Tryd.params6] at ht
        have hm : t ∈ [22, 31, 31, 3, 28] := by simpa using Array.mem_of_getElem? ht
        have hall : ([22, 31, 31, 3, 28].all fun u => !Tryd.prog.wantsStandIn u) = true := by kernel_rfl
        exact (show Tryd.prog.wantsStandIn t = false by simpa using List.all_eq_true.1 hall t hm)⟩)
    (by kernel_rfl)
#print axioms bufferTells_proved
end Go.Proofs.YtdmcmpbappjdoaaDoor
