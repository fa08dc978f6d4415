/- Layer 17: acts, rows of cells; great. -/
import Derived.Test.YtbdphbkpglhhaaaA5
namespace Go.Proofs.Ytbdphbkpglhhaaa
open Go.ChangeShapes Go.WideShapes Go.ChangeAt Go.RowKit
set_option linter.unusedVariables false

theorem Gi.alloc {w : World} {b : Nat} {n age : Int} {g : Nat → Int} (h : Gi w b n age g) (o : Obj) : Gi (w.alloc o) b n age g := (Below.heap_alloc _ _ _ h.lt).trans h
theorem Gi.below {w w' : World} {b : Nat} {n age : Int} {g : Nat → Int} (h : Gi w b n age g) (hb : Below w.heap.size w w') : Gi w' b n age g := (hb.block _ h.lt).trans h
theorem Gi.other {w : World} {b d : Nat} {n age : Int} {g : Nat → Int} (h : Gi w b n age g) (hd : d ≠ b) (o : Nat) (v : Value) : Gi (w.setCell ⟨d, o, none⟩ v) b n age g := (Below.heap_setCell _ _ _ _ (by simpa using Ne.symm hd)).trans h

/-- The acts of a slice. -/
structure Act1 (w : World) (b off k : Nat) (K S : Int) (ra : Option Addr) (rl rc : Nat) (R : Nat → Int) : Prop where
  lt : b < w.heap.size
  c0 : w.cell? ⟨b, off + k * 3, none⟩ = some (.int .i64 K)
  c1 : w.cell? ⟨b, off + k * 3 + 1, none⟩ = some (.int .i64 S)
  c2 : w.cell? ⟨b, off + k * 3 + 2, none⟩ = some (.slice ra rl rc)
  run : ∀ j, j < rl → ∃ rb ro, ra = some ⟨rb, ro, none⟩ ∧ rb < w.heap.size ∧ w.cell? ⟨rb, ro + j, none⟩ = some (.int .i64 (R j))
def Acts (w : World) (ao : Option Addr) (len : Nat) (K S : Nat → Int) (RA : Nat → Option Addr) (RL RC : Nat → Nat) (RV : Nat → Nat → Int) : Prop :=
  ∀ k, k < len → ∃ b off, ao = some ⟨b, off, none⟩ ∧ Act1 w b off k (K k) (S k) (RA k) (RL k) (RC k) (RV k)
theorem Act1.below {w w' : World} {b off k : Nat} {K S : Int} {ra : Option Addr} {rl rc : Nat} {R : Nat → Int} (h : Act1 w b off k K S ra rl rc R) (hb : Below w.heap.size w w') : Act1 w' b off k K S ra rl rc R :=
  ⟨Nat.lt_of_lt_of_le h.lt hb.size, (hb.cell (p := ⟨b, off + k * 3, none⟩) h.lt).trans h.c0, (hb.cell (p := ⟨b, off + k * 3 + 1, none⟩) h.lt).trans h.c1, (hb.cell (p := ⟨b, off + k * 3 + 2, none⟩) h.lt).trans h.c2, fun j hj => by
    obtain ⟨rb, ro, e, hl, hc⟩ := h.run j hj
    exact ⟨rb, ro, e, Nat.lt_of_lt_of_le hl hb.size, (hb.cell (p := ⟨rb, ro + j, none⟩) hl).trans hc⟩⟩
theorem Act1.toRun {w : World} {b off k : Nat} {K S : Int} {ra : Option Addr} {rl rc : Nat} {R : Nat → Int} (h : Act1 w b off k K S ra rl rc R) : Run w ra rl R := fun j hj => by
  obtain ⟨rb, ro, e, hl, hc⟩ := h.run j hj
  exact ⟨rb, ro, e, hc⟩

def arr7 (t : TypeId) (F : Nat → Value) : Obj := .cells #[F 0, F 1, F 2, F 3, F 4, F 5, F 6] t (0, 0)
theorem arr7_cell {w : World} {b : Nat} {t : TypeId} {F : Nat → Value} (h : w.heap[b]? = some (arr7 t F)) (k : Nat) (hk : k < 7) :
    w.cell? ⟨b, k, none⟩ = some (F k) := by
  have : k = 0 ∨ k = 1 ∨ k = 2 ∨ k = 3 ∨ k = 4 ∨ k = 5 ∨ k = 6 := by omega
  rcases this with rfl | rfl | rfl | rfl | rfl | rfl | rfl <;> simp [World.cell?, h, arr7]
theorem arr7_free {w : World} {b : Nat} {t : TypeId} {F : Nat → Value} (h : w.heap[b]? = some (arr7 t F)) (o : Nat) :
    w.frozen? ⟨b, o, none⟩ = false := by
  simp [World.frozen?, h, arr7]
theorem arr7_set {w : World} {b : Nat} {t : TypeId} {F : Nat → Value} (h : w.heap[b]? = some (arr7 t F)) (k : Nat) (hk : k < 7) (v : Value) :
    (w.setCell ⟨b, k, none⟩ v).heap[b]? = some (arr7 t (fun j => if j = k then v else F j)) := by
  unfold arr7 at h ⊢
  rw [block_set h]
  have : k = 0 ∨ k = 1 ∨ k = 2 ∨ k = 3 ∨ k = 4 ∨ k = 5 ∨ k = 6 := by omega
  rcases this with rfl | rfl | rfl | rfl | rfl | rfl | rfl <;> simp
theorem arr7_put {α : Type} (f : α → Value) {w : World} {b : Nat} {t : TypeId} {F : Nat → α} (h : w.heap[b]? = some (arr7 t fun j => f (F j))) (k : Nat) (hk : k < 7) (v : α) :
    (w.setCell ⟨b, k, none⟩ (f v)).heap[b]? = some (arr7 t fun j => f (if j = k then v else F j)) := by
  rw [arr7_set h k hk]
  congr 2
  funext j
  split <;> rfl

def arr17 (t : TypeId) (F : Nat → Value) : Obj := .cells #[F 0, F 1, F 2, F 3, F 4, F 5, F 6, F 7, F 8, F 9, F 10, F 11, F 12, F 13, F 14, F 15, F 16] t (0, 0)
theorem arr17_cell {w : World} {b : Nat} {t : TypeId} {F : Nat → Value} (h : w.heap[b]? = some (arr17 t F)) (k : Nat) (hk : k < 17) :
    w.cell? ⟨b, k, none⟩ = some (F k) := by
  have : k = 0 ∨ k = 1 ∨ k = 2 ∨ k = 3 ∨ k = 4 ∨ k = 5 ∨ k = 6 ∨ k = 7 ∨ k = 8 ∨ k = 9 ∨ k = 10 ∨ k = 11 ∨ k = 12 ∨ k = 13 ∨ k = 14 ∨ k = 15 ∨ k = 16 := by omega
  rcases this with rfl | rfl | rfl | rfl | rfl | rfl | rfl | rfl | rfl | rfl | rfl | rfl | rfl | rfl | rfl | rfl | rfl <;> simp [World.cell?, h, arr17]
theorem arr17_free {w : World} {b : Nat} {t : TypeId} {F : Nat → Value} (h : w.heap[b]? = some (arr17 t F)) (o : Nat) :
    w.frozen? ⟨b, o, none⟩ = false := by
  simp [World.frozen?, h, arr17]
theorem arr17_set {w : World} {b : Nat} {t : TypeId} {F : Nat → Value} (h : w.heap[b]? = some (arr17 t F)) (k : Nat) (hk : k < 17) (v : Value) :
    (w.setCell ⟨b, k, none⟩ v).heap[b]? = some (arr17 t (fun j => if j = k then v else F j)) := by
  unfold arr17 at h ⊢
  rw [block_set h]
  have : k = 0 ∨ k = 1 ∨ k = 2 ∨ k = 3 ∨ k = 4 ∨ k = 5 ∨ k = 6 ∨ k = 7 ∨ k = 8 ∨ k = 9 ∨ k = 10 ∨ k = 11 ∨ k = 12 ∨ k = 13 ∨ k = 14 ∨ k = 15 ∨ k = 16 := by omega
  rcases this with rfl | rfl | rfl | rfl | rfl | rfl | rfl | rfl | rfl | rfl | rfl | rfl | rfl | rfl | rfl | rfl | rfl <;> simp
theorem arr17_put {α : Type} (f : α → Value) {w : World} {b : Nat} {t : TypeId} {F : Nat → α} (h : w.heap[b]? = some (arr17 t fun j => f (F j))) (k : Nat) (hk : k < 17) (v : α) :
    (w.setCell ⟨b, k, none⟩ (f v)).heap[b]? = some (arr17 t fun j => f (if j = k then v else F j)) := by
  rw [arr17_set h k hk]
  congr 2
  funext j
  split <;> rfl


def GreatPost (len : Nat) (RL : Nat → Nat) (w : World) (e : Ending) (w' : World) : Prop := ∃ G : Bool, e = .returned (.bool G) ∧ (G = false → len ≤ 200 ∧ ∀ k, k < len → RL k ≤ 20) ∧ w = w'

theorem great_ok (ao : Option Addr) (len cap : Nat) (K S : Nat → Int) (RA : Nat → Option Addr) (RL RC : Nat → Nat) (RV : Nat → Nat → Int) (w : World) (hcap : len ≤ 9223372036854775807) (ha : Acts w ao len K S RA RL RC RV) :
    Calls Try.prog 8 #[.slice ao len cap] w (GreatPost len RL w) := by
  have HA := Lib.hid ha
  clear ha
  go_enter Try.func8, Try.ntmps8
  go_wp2_with fail
  go_loop [6] (fun i => ∃ k : Nat, k ≤ len ∧ k ≤ 200 ∧ i = .int .i64 k ∧ ∀ j, j < k → RL j ≤ 20) (fun i => len - (intOf i).toNat)
  case atStart => exact ⟨0, by omega, by omega, rfl, fun j hj => absurd hj (Nat.not_lt_zero _)⟩
  case round =>
    obtain ⟨k, hk, hk2, rfl, hall⟩ := hrel
    have HALL := Lib.hid hall
    clear hall
    by_cases hlk : k < len
    · by_cases h200 : k < 200
      · have hd1 : decide ((200 : Int) ≤ (k : Int)) = false := by simp; omega
        have hd1' : decide (200 ≤ k) = false := by simp; omega
        obtain ⟨b, off, rfl, a⟩ := HA.out k hlk
        have c2 := a.c2
        clear a
        by_cases h20 : RL k ≤ 20
        · have hd2 : decide ((20 : Int) < (RL k : Int)) = false := by simp; omega
          have hd2' : decide (20 < RL k) = false := by simp; omega
          have HR := Lib.hid h20
          clear h20
          go_wp2_with fail
          go_round
          case rel => exact ⟨k + 1, by omega, by omega, by go_num, fun j hj => by
            by_cases hjk : j = k
            · subst hjk; exact HR.out
            · exact HALL.out j (by omega)⟩
          case measure => simp [intOf]; omega
        · have hd2 : decide ((20 : Int) < (RL k : Int)) = true := by simp; omega
          have hd2' : decide (20 < RL k) = true := by simp; omega
          clear h20
          go_wp2_with fail
          go_ret
          exact Exists.intro true ⟨rfl, fun h => (by cases h), rfl⟩
      · have hd1 : decide ((200 : Int) ≤ (k : Int)) = true := by simp; omega
        have hd1' : decide (200 ≤ k) = true := by simp; omega
        go_wp2_with fail
        go_ret
        exact Exists.intro true ⟨rfl, fun h => (by cases h), rfl⟩
    · go_wp2_with fail
      go_ret
      obtain rfl : k = len := by omega
      exact Exists.intro false ⟨rfl, fun _ => ⟨hk2, HALL.out⟩, rfl⟩
end Go.Proofs.Ytbdphbkpglhhaaa
