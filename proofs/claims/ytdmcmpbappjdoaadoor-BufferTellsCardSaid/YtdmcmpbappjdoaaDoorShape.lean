/- Layer 9: what the cells of entries are, when they read as data; the table of kinds. -/
import Derived.Test.YtdmcmpbappjdoaaDoorPost
import Derived.Test.YtdmcmpbappjdoaaDoorD2
import Derived.Deep.Slices
import Derived.Deep.Fields
import Derived.LaidMore
import Derived.Stop.Joined
namespace Go.Proofs.YtdmcmpbappjdoaaDoor
open Go.ChangeShapes Go.WideShapes Go.ChangeAt Go.RowKit
set_option linter.unusedVariables false

section
variable {H : Type} {enc : TypeId × Value → H} {w : World} {base : Nat} {spare : Nat → Bool} {held : Bool}
theorem struct_parts {P : Program} {t : TypeId} {fs : Array Field} {fuel : Nat} {cs : List Value} {x : DataW H × List MemPlace} (ht : P.underlying t = some (.struct fs)) (h : DataW.trod enc P w base spare held fuel t cs = some x) :
    cs.length = P.cellsOf t ∧ ∀ (i : Nat) (f : Field), fs[i]? = some f → ∃ n y, DataW.trod enc P w base spare held n f.type ((cs.drop f.offset).take (P.cellsOf f.type)) = some y := by
  obtain ⟨xs, n, _, _, hl, hx, hf⟩ := DataW.trod_struct ht h
  refine ⟨hl, fun i f hi => ?_⟩
  have hlt : i < fs.size := (Array.getElem?_eq_some_iff.1 hi).1
  refine ⟨n, xs[i], ?_⟩
  rw [hf i f hi]
  exact List.getElem?_eq_getElem (by omega)
theorem c3 : Tryd.prog.cellsOf 3 = 1 := by kernel_rfl
theorem c28 : Tryd.prog.cellsOf 28 = 1 := by kernel_rfl
theorem c29 : Tryd.prog.cellsOf 29 = 1 := by kernel_rfl
theorem c31 : Tryd.prog.cellsOf 31 = 5 := by kernel_rfl
theorem five {α : Type} {l : List α} (h : l.length = 5) : ∃ a b c d e, l = [a, b, c, d, e] := by
  match l, h with
  | [a, b, c, d, e], _ => exact ⟨a, b, c, d, e, rfl⟩
theorem three {α : Type} {l : List α} (h : l.length = 3) : ∃ a b c, l = [a, b, c] := by
  match l, h with
  | [a, b, c], _ => exact ⟨a, b, c, rfl⟩
theorem entry_cells {fuel : Nat} {cs : List Value} {x : DataW H × List MemPlace} (h : DataW.trod enc Tryd.prog w base spare held fuel 31 cs = some x) :
    ∃ e : Ent, cs = [.int .i8 e.k, .int .u64 e.wd, .int .u64 e.v, .int .i64 e.fr, .int .i64 e.fm] ∧ e.ok := by
  obtain ⟨hl, hf⟩ := struct_parts Tryd.underlying31 h
  rw [c31] at hl
  obtain ⟨a0, a1, a2, a3, a4, rfl⟩ := five hl
  obtain ⟨_, _, e0⟩ := hf 0 _ rfl
  obtain ⟨_, _, e1⟩ := hf 1 _ rfl
  obtain ⟨_, _, e2⟩ := hf 2 _ rfl
  obtain ⟨_, _, e3⟩ := hf 3 _ rfl
  obtain ⟨_, _, e4⟩ := hf 4 _ rfl
  obtain ⟨k, h0, _, w0⟩ := DataW.trod_int Tryd.underlying29 e0
  obtain ⟨wd, h1, _, w1⟩ := DataW.trod_int Tryd.underlying28 e1
  obtain ⟨vl, h2, _, w2⟩ := DataW.trod_int Tryd.underlying28 e2
  obtain ⟨fr, h3, _, w3⟩ := DataW.trod_int Tryd.underlying3 e3
  obtain ⟨fm, h4, _, w4⟩ := DataW.trod_int Tryd.underlying3 e4
  simp [c29] at h0
  simp [c28] at h1
  simp [c28] at h2
  simp [c3] at h3
  simp [c3] at h4
  subst h0 h1 h2 h3 h4
  exact ⟨⟨k, wd, vl, fr, fm⟩, rfl, by
    have b0 := bounds_i8 w0; have b1 := bounds_u64 w1; have b2 := bounds_u64 w2; have b3 := bounds_i64 w3; have b4 := bounds_i64 w4
    exact ⟨b0.1, b0.2, b1.1, b1.2, b2.1, b2.2, b3.1, b3.2, b4.1, b4.2⟩⟩
theorem add_cell {w : World} {a : Addr} {i : Nat} {v : Value} (h : w.cell? (a.add i) = some v) (hs : a.spot = none) : w.cell? ⟨a.block, a.off + i, none⟩ = some v := by
  obtain ⟨b, o, s⟩ := a
  simp only at hs
  subst hs
  rw [← Go.WideShapes.add_plain]
  exact h
/-- An argument of entries: its cells. -/
theorem ents_of {v : Value} {d : DataW H} {ps : List MemPlace} {r : Reach} {b0 : Nat} (hv : Value.okWide Tryd.prog w r b0 22 v) (h : DataW.Trod enc Tryd.prog w 0 (fun _ => true) true 22 v d ps) :
    ∃ (ao : Option Addr) (n cap : Nat) (l : List Ent), v = .slice ao n cap ∧ n = l.length ∧ n ≤ cap ∧ cap ≤ 9223372036854775807 ∧ (ao = none → cap = 0) ∧ Ents w ao l ∧ Oks l := by
  obtain ⟨ao, len, cap, rfl⟩ := okWide_slice Tryd.underlying22 hv
  obtain ⟨fuel, hf⟩ := h
  rcases Go.Deep.open_slice Tryd.underlying22 hf with ⟨hcs, hx⟩ | ⟨a, len', cap', m, n, D, Pl, hcs, _, hl, hm, hmm, hx, hel⟩
  · simp [Value.cells] at hcs
    obtain ⟨rfl, rfl, rfl⟩ := hcs
    exact ⟨none, 0, 0, [], rfl, rfl, by omega, by omega, fun _ => rfl, fun i hi => absurd hi (Nat.not_lt_zero _), fun e he => by cases he⟩
  · simp [Value.cells] at hcs
    obtain ⟨rfl, rfl, rfl⟩ := hcs
    have hmc : m = cap := by simpa using hmm
    have each : ∀ k, k < len → ∃ e : Ent, e.ok ∧ ∃ b off, (some a : Option Addr) = some ⟨b, off, none⟩ ∧ E5 w b (off + k * 5) e := by
      intro k hk
      obtain ⟨cs, hc, ht⟩ := hel k (by omega)
      obtain ⟨e, rfl, hok⟩ := entry_cells ht
      rw [c31] at hc
      obtain ⟨_, _, hat⟩ := World.cells?_some hc
      have g : ∀ i, i < 5 → w.cell? ((a.add (k * 5)).add i) = [Value.int .i8 e.k, .int .u64 e.wd, .int .u64 e.v, .int .i64 e.fr, .int .i64 e.fm][i]? := hat
      simp only [Go.Deep.add_add] at g
      have hsp : a.spot = none := by
        obtain ⟨_, hc0, _⟩ := hel 0 (by omega)
        rw [c31] at hc0
        obtain ⟨_, hl0, hat0⟩ := World.cells?_some hc0
        have h00 := hat0 0 (by omega)
        have e : (a.add (0 * 5)).add 0 = a := by simp [Addr.add]
        rw [e] at h00
        exact World.cell?_spot (h00.trans (List.getElem?_eq_getElem (by omega)))
      have g' : ∀ i v, i < 5 → [Value.int .i8 e.k, .int .u64 e.wd, .int .u64 e.v, .int .i64 e.fr, .int .i64 e.fm][i]? = some v → w.cell? ⟨a.block, a.off + k * 5 + i, none⟩ = some v := fun i v hi hv => by
        have := add_cell ((g i hi).trans hv) hsp
        rwa [← Nat.add_assoc] at this
      have z0 := g' 0 _ (by omega) rfl
      obtain ⟨b, off, s⟩ := a
      simp only at hsp
      subst hsp
      exact ⟨e, hok, b, off, rfl, ⟨z0, g' 1 _ (by omega) rfl, g' 2 _ (by omega) rfl, g' 3 _ (by omega) rfl, g' 4 _ (by omega) rfl⟩⟩
    have hnt : ∀ k (hk : k < len), nt ((List.range len).map fun k => if hk : k < len then (each k hk).choose else e0) k = (each k hk).choose := fun k hk => by
      simp [nt, hk]
    refine ⟨some a, len, cap, (List.range len).map fun k => if hk : k < len then (each k hk).choose else e0, rfl, by simp, hl, hm, (fun h => by cases h), fun i hi => ?_, fun e he => ?_⟩
    · have hi' : i < len := by simpa using hi
      rw [hnt i hi']
      exact (each i hi').choose_spec.2
    · simp only [List.mem_map, List.mem_range] at he
      obtain ⟨k, hk, rfl⟩ := he
      simp only [hk, dif_pos]
      exact (each k hk).choose_spec.1
theorem bools_cells {fuel : Nat} {cs : List Value} {x : DataW H × List MemPlace} (h : DataW.trod enc Tryd.prog w base spare held fuel 56 cs = some x) :
    ∃ a b c : Bool, cs = [.bool a, .bool b, .bool c] ∧ x.1 = .agg [.lit (.bool a), .lit (.bool b), .lit (.bool c)] := by
  have k4 : Tryd.prog.cellsOf 4 = 1 := by kernel_rfl
  have k56 : Tryd.prog.cellsOf 56 = 3 := by kernel_rfl
  obtain ⟨xs, n, _, hx, hl, hxl, hf⟩ := DataW.trod_struct Tryd.underlying56 h
  rw [k56] at hl
  obtain ⟨a0, a1, a2, rfl⟩ := three hl
  obtain ⟨x0, x1, x2, rfl⟩ := three hxl
  obtain ⟨a, h0, y0⟩ := DataW.trod_bool Tryd.underlying4 (hf 0 _ rfl)
  obtain ⟨b, h1, y1⟩ := DataW.trod_bool Tryd.underlying4 (hf 1 _ rfl)
  obtain ⟨c, h2, y2⟩ := DataW.trod_bool Tryd.underlying4 (hf 2 _ rfl)
  simp [k4] at h0
  simp [k4] at h1
  simp [k4] at h2
  subst h0 h1 h2 y0 y1 y2
  exact ⟨a, b, c, rfl, by rw [hx]; rfl⟩
end
theorem take3 {L : List Value} {k : Nat} {a b c : Value} (h : (L.drop k).take 3 = [a, b, c]) : L[k]? = some a ∧ L[k + 1]? = some b ∧ L[k + 2]? = some c := by
  have g : ∀ j, j < 3 → L[k + j]? = [a, b, c][j]? := fun j hj => by
    rw [← h, List.getElem?_take, if_pos hj, List.getElem?_drop]
  exact ⟨g 0 (by omega), g 1 (by omega), g 2 (by omega)⟩

abbrev laidK : List (String × DataW Unit) := [("tenement/buffer.kinds", Rows.laid_tenement_buffer_kinds)]
theorem gKinds : Tryd.prog.globalNamed "tenement/buffer.kinds" = some 0 := by kernel_rfl
theorem tKinds : (Tryd.prog.globals[0]?).map (·.type) = some 57 := by kernel_rfl
theorem c56 : Tryd.prog.cellsOf 56 = 3 := by kernel_rfl
theorem c4 : Tryd.prog.cellsOf 4 = 1 := by kernel_rfl
theorem c57 : Tryd.prog.cellsOf 57 = 12 := by kernel_rfl
theorem kinds_of {W : World} (h : laidMetH Tryd.prog laidK W) : TK W := by
  rw [MakeChecks.laidMetH_plain _ _ _ (by kernel_rfl)] at h
  obtain ⟨ps, ⟨g0, t0, cs0, f0, p0, q0, hg0, ht0, hv0, hd0, _, _⟩, _, _⟩ := h
  obtain rfl := Option.some.inj (gKinds.symm.trans hg0)
  obtain rfl := Option.some.inj (tKinds.symm.trans ht0)
  have hcell := World.var?_cell hg0 hv0
  obtain ⟨xs, m1, rfl, hx1, hlen, hn, hel⟩ := DataW.trod_array Tryd.underlying57 hd0
  match xs, hn, hx1, hel with
  | [x0, x1, x2, x3], _, hx1, hel =>
    simp only [Prod.mk.injEq] at hx1
    obtain ⟨hx1, _⟩ := hx1
    simp only [Rows.laid_tenement_buffer_kinds, List.map_cons, List.map_nil, DataW.agg.injEq, List.cons.injEq, and_true] at hx1
    obtain ⟨y0, y1, y2, y3⟩ := hx1
    simp only [c56] at hel
    have key : ∀ (i : Nat) (hi : i < 4) (x : DataW Unit × List MemPlace) (a b c : Bool), [x0, x1, x2, x3][i]? = some x → x.1 = .agg [.lit (.bool a), .lit (.bool b), .lit (.bool c)] →
        W.cell? ⟨0, i * 3, none⟩ = some (.bool a) ∧ W.cell? ⟨0, i * 3 + 1, none⟩ = some (.bool b) ∧ W.cell? ⟨0, i * 3 + 2, none⟩ = some (.bool c) := by
      intro i hi x a b c hx hd
      obtain ⟨a', b', c', hc, hd'⟩ := bools_cells ((hel i hi).trans hx)
      rw [hd'] at hd
      simp at hd
      obtain ⟨rfl, rfl, rfl⟩ := hd
      obtain ⟨z0, z1, z2⟩ := take3 hc
      simp only [Array.getElem?_toList] at z0 z1 z2
      exact ⟨(hcell _).trans z0, (hcell _).trans z1, (hcell _).trans z2⟩
    intro K hK
    rcases (show K = 0 ∨ K = 1 ∨ K = 2 ∨ K = 3 by omega) with rfl | rfl | rfl | rfl
    · exact key 0 (by omega) x0 _ _ _ rfl y0.symm
    · exact key 1 (by omega) x1 _ _ _ rfl y1.symm
    · exact key 2 (by omega) x2 _ _ _ rfl y2.symm
    · exact key 3 (by omega) x3 _ _ _ rfl y3.symm
/-- The door's own heap meets the condition. -/
theorem door_met (os : Os) (args : Array Value) : laidMetH Tryd.prog laidK ((World.doorLaid Tryd.prog 18 os).forCall (fun _ _ => 0) ⟨#[], args, []⟩).memory :=
  laidMetH_of_parts3 (fuel := 8) (laidMet_of_run' 8 (by kernel_rfl) (by kernel_rfl)) (by kernel_rfl) (by kernel_rfl)
end Go.Proofs.YtdmcmpbappjdoaaDoor
