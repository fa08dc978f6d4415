/- Layer 17: what the cells of acts are, when they read as data. -/
import Derived.Test.YtbdphbkpglhhaaaPost
import Derived.Test.YtbdphbkpglhhaaaA6
import Derived.Deep.Slices
import Derived.Deep.Fields
namespace Go.Proofs.Ytbdphbkpglhhaaa
open Go.ChangeShapes Go.WideShapes Go.ChangeAt Go.RowKit
set_option linter.unusedVariables false
section
variable {H : Type} {enc : TypeId × Value → H} {w : World} {base : Nat} {spare : Nat → Bool} {held : Bool}

theorem struct_parts {P : Program} {t : TypeId} {fs : Array Field} {fuel : Nat} {cs : List Value} {x : DataW H × List MemPlace} (ht : P.underlying t = some (.struct fs)) (h : DataW.trod enc P w base spare held fuel t cs = some x) :
    cs.length = P.cellsOf t ∧ ∀ (i : Nat) (f : Field), fs[i]? = some f → ∃ n y, DataW.trod enc P w base spare held n f.type ((cs.drop f.offset).take (P.cellsOf f.type)) = some y := by
  obtain ⟨xs, n, _, _, hl, hx, hf⟩ := DataW.trod_struct ht h
  refine ⟨hl, fun i f hi => ?_⟩
  have hlt : i < fs.size := (Array.getElem?_eq_some_iff.1 hi).1
  refine ⟨n, xs[i], ?_⟩
  rw [hf i f hi]
  exact List.getElem?_eq_getElem (by omega)

theorem c3 : Try.prog.cellsOf 3 = 1 := by kernel_rfl
theorem c30 : Try.prog.cellsOf 30 = 1 := by kernel_rfl
theorem c32 : Try.prog.cellsOf 32 = 3 := by kernel_rfl
theorem three {α : Type} {l : List α} (h : l.length = 3) : ∃ a b c, l = [a, b, c] := by
  match l, h with
  | [a, b, c], _ => exact ⟨a, b, c, rfl⟩
theorem lt_of_cell {w : World} {a : Addr} {v : Value} (h : w.cell? a = some v) : a.block < w.heap.size := by
  rcases Nat.lt_or_ge a.block w.heap.size with h' | h'
  · exact h'
  · simp [World.cell?, Array.getElem?_eq_none h'] at h

/-- A row of integers: its cells. -/
theorem ints_cells {fuel : Nat} {cs : List Value} {x : DataW H × List MemPlace} (h : DataW.trod enc Try.prog w base spare held fuel 30 cs = some x) :
    ∃ (ra : Option Addr) (rl rc : Nat) (R : Nat → Int), cs = [.slice ra rl rc] ∧ ∀ j, j < rl → ∃ rb ro, ra = some ⟨rb, ro, none⟩ ∧ rb < w.heap.size ∧ w.cell? ⟨rb, ro + j, none⟩ = some (.int .i64 (R j)) := by
  rcases open_ints Try.underlying30 Try.underlying3 c3 h with ⟨hcs, hx⟩ | ⟨a, len', cap', zs, hcs, _, hl, hm, hz, hx, hcell, hwz⟩
  · exact ⟨none, 0, 0, fun _ => 0, hcs, fun j hj => absurd hj (Nat.not_lt_zero _)⟩
  · refine ⟨some a, len', cap', fun j => zs.getD j 0, hcs, fun j hj => ?_⟩
    have hzl : len' ≤ zs.length := by rw [hz]; split <;> omega
    obtain ⟨b, off, rfl, hc⟩ := ints_at hcell (by omega)
    have := hc j (by omega)
    exact ⟨b, off, rfl, lt_of_cell this, this⟩

theorem act_cells {fuel : Nat} {cs : List Value} {x : DataW H × List MemPlace} (h : DataW.trod enc Try.prog w base spare held fuel 32 cs = some x) :
    ∃ (K S : Int) (ra : Option Addr) (rl rc : Nat) (R : Nat → Int), cs = [.int .i64 K, .int .i64 S, .slice ra rl rc] ∧ ∀ j, j < rl → ∃ rb ro, ra = some ⟨rb, ro, none⟩ ∧ rb < w.heap.size ∧ w.cell? ⟨rb, ro + j, none⟩ = some (.int .i64 (R j)) := by
  obtain ⟨hl, hf⟩ := struct_parts Try.underlying32 h
  rw [c32] at hl
  obtain ⟨a0, a1, a2, rfl⟩ := three hl
  obtain ⟨_, _, e0⟩ := hf 0 _ rfl
  obtain ⟨_, _, e1⟩ := hf 1 _ rfl
  obtain ⟨_, _, e2⟩ := hf 2 _ rfl
  obtain ⟨K, h0, _, w0⟩ := DataW.trod_int Try.underlying3 e0
  obtain ⟨S, h1, _, w1⟩ := DataW.trod_int Try.underlying3 e1
  obtain ⟨ra, rl, rc, R, h2, hr⟩ := ints_cells e2
  simp [c3] at h0
  simp [c3] at h1
  simp [c30] at h2
  subst h0 h1 h2
  exact ⟨K, S, ra, rl, rc, R, rfl, hr⟩

theorem add_cell {w : World} {a : Addr} {i : Nat} {v : Value} (h : w.cell? (a.add i) = some v) (hs : a.spot = none) : w.cell? ⟨a.block, a.off + i, none⟩ = some v := by
  obtain ⟨b, o, s⟩ := a
  simp only at hs
  subst hs
  rw [← Go.WideShapes.add_plain]
  exact h

/-- An argument of acts: its cells. -/
theorem acts_of {v : Value} {d : DataW H} {ps : List MemPlace} {r : Reach} {b0 : Nat} (hv : Value.okWide Try.prog w r b0 22 v) (h : DataW.Trod enc Try.prog w 0 (fun _ => true) true 22 v d ps) :
    ∃ (ao : Option Addr) (len cap : Nat) (K S : Nat → Int) (RA : Nat → Option Addr) (RL RC : Nat → Nat) (RV : Nat → Nat → Int), v = .slice ao len cap ∧ len ≤ 9223372036854775807 ∧ Acts w ao len K S RA RL RC RV := by
  obtain ⟨ao, len, cap, rfl⟩ := okWide_slice Try.underlying22 hv
  obtain ⟨fuel, hf⟩ := h
  rcases Go.Deep.open_slice Try.underlying22 hf with ⟨hcs, hx⟩ | ⟨a, len', cap', m, n, D, Pl, hcs, _, hl, hm, hmm, hx, hel⟩
  · simp [Value.cells] at hcs
    obtain ⟨rfl, rfl, rfl⟩ := hcs
    exact ⟨none, 0, 0, fun _ => 0, fun _ => 0, fun _ => none, fun _ => 0, fun _ => 0, fun _ _ => 0, rfl, by omega, fun k hk => absurd hk (Nat.not_lt_zero _)⟩
  · simp [Value.cells] at hcs
    obtain ⟨rfl, rfl, rfl⟩ := hcs
    have hmc : m = cap := by simpa using hmm
    have each : ∀ k, k < len → ∃ (K S : Int) (ra : Option Addr) (rl rc : Nat) (R : Nat → Int), ∃ b off, (some a : Option Addr) = some ⟨b, off, none⟩ ∧ Act1 w b off k K S ra rl rc R := by
      intro k hk
      obtain ⟨cs, hc, ht⟩ := hel k (by omega)
      obtain ⟨K, S, ra, rl, rc, R, rfl, hr⟩ := act_cells ht
      rw [c32] at hc
      obtain ⟨_, _, hat⟩ := World.cells?_some hc
      have g : ∀ i, i < 3 → w.cell? ((a.add (k * 3)).add i) = [Value.int .i64 K, .int .i64 S, .slice ra rl rc][i]? := hat
      simp only [Go.Deep.add_add] at g
      have hsp : a.spot = none := by
        obtain ⟨_, hc0, _⟩ := hel 0 (by omega)
        rw [c32] at hc0
        obtain ⟨_, hl0, hat0⟩ := World.cells?_some hc0
        have h00 := hat0 0 (by omega)
        have e : (a.add (0 * 3)).add 0 = a := by simp [Addr.add]
        rw [e] at h00
        exact World.cell?_spot (h00.trans (List.getElem?_eq_getElem (by omega)))
      have g' : ∀ i v, i < 3 → [Value.int .i64 K, .int .i64 S, .slice ra rl rc][i]? = some v → w.cell? ⟨a.block, a.off + k * 3 + i, none⟩ = some v := fun i v hi hv => by
        have := add_cell ((g i hi).trans hv) hsp
        rwa [← Nat.add_assoc] at this
      have z0 := g' 0 _ (by omega) rfl
      obtain ⟨b, off, s⟩ := a
      simp only at hsp
      subst hsp
      exact ⟨K, S, ra, rl, rc, R, b, off, rfl, lt_of_cell z0, z0, g' 1 _ (by omega) rfl, g' 2 _ (by omega) rfl, hr⟩
    refine ⟨some a, len, cap, fun k => if hk : k < len then (each k hk).choose else 0, fun k => if hk : k < len then (each k hk).choose_spec.choose else 0, fun k => if hk : k < len then (each k hk).choose_spec.choose_spec.choose else none, fun k => if hk : k < len then (each k hk).choose_spec.choose_spec.choose_spec.choose else 0, fun k => if hk : k < len then (each k hk).choose_spec.choose_spec.choose_spec.choose_spec.choose else 0, fun k => if hk : k < len then (each k hk).choose_spec.choose_spec.choose_spec.choose_spec.choose_spec.choose else fun _ => 0, rfl, Nat.le_trans hl hm, fun k hk => ?_⟩
    have := (each k hk).choose_spec.choose_spec.choose_spec.choose_spec.choose_spec.choose_spec
    simp only [hk, dif_pos]
    exact this
end
end Go.Proofs.Ytbdphbkpglhhaaa
