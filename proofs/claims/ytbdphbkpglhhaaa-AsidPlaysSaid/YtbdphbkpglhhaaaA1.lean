/- Layer 17: the giver's block; New, Age, isSpace. -/
import Derived.Test.YtbdphbkpglhhaaaProg
import Derived.WalkKit
import Derived.ProofKit
import Derived.OpenShut
import Derived.Outline
import Derived.Lib.Hide
import Derived.OneCell
import Derived.WalkSpells
import Derived.WalkLawsBesides
import Derived.Deep.QuietTactic
import Derived.BigQuiet
import Derived.LoopTactic
import Derived.Laws.LoneSync
namespace Go.Proofs.Ytbdphbkpglhhaaa
open Go.ChangeShapes Go.WideShapes Go.ChangeAt Go.RowKit
set_option linter.unusedVariables false

/-- The giver's cells: how many ASIDs, the age, to whom each is given. -/
def gib (n age : Int) (g : Nat → Int) : Obj :=
  .cells #[.int .i64 n, .int .i64 age, .int .i64 (g 0), .int .i64 (g 1), .int .i64 (g 2), .int .i64 (g 3), .int .i64 (g 4), .int .i64 (g 5), .int .i64 (g 6), .int .i64 (g 7), .int .i64 (g 8), .int .i64 (g 9), .int .i64 (g 10), .int .i64 (g 11), .int .i64 (g 12), .int .i64 (g 13), .int .i64 (g 14), .int .i64 (g 15), .int .i64 (g 16)] 55 (0, 0)
def Gi (w : World) (b : Nat) (n age : Int) (g : Nat → Int) : Prop := w.heap[b]? = some (gib n age g)

theorem sev (k : Nat) (h : k < 17) : k = 0 ∨ k = 1 ∨ k = 2 ∨ k = 3 ∨ k = 4 ∨ k = 5 ∨ k = 6 ∨ k = 7 ∨ k = 8 ∨ k = 9 ∨ k = 10 ∨ k = 11 ∨ k = 12 ∨ k = 13 ∨ k = 14 ∨ k = 15 ∨ k = 16 := by omega
theorem Gi.c0 {w : World} {b : Nat} {n age : Int} {g : Nat → Int} (h : Gi w b n age g) : w.cell? ⟨b, 0, none⟩ = some (.int .i64 n) := by
  unfold Gi at h; simp [World.cell?, h, gib]
theorem Gi.c1 {w : World} {b : Nat} {n age : Int} {g : Nat → Int} (h : Gi w b n age g) : w.cell? ⟨b, 1, none⟩ = some (.int .i64 age) := by
  unfold Gi at h; simp [World.cell?, h, gib]
theorem Gi.c {w : World} {b : Nat} {n age : Int} {g : Nat → Int} (h : Gi w b n age g) (k : Nat) (hk : k < 17) : w.cell? ⟨b, 2 + k, none⟩ = some (.int .i64 (g k)) := by
  unfold Gi at h
  rcases sev k hk with rfl | rfl | rfl | rfl | rfl | rfl | rfl | rfl | rfl | rfl | rfl | rfl | rfl | rfl | rfl | rfl | rfl <;> simp [World.cell?, h, gib]
theorem Gi.free {w : World} {b : Nat} {n age : Int} {g : Nat → Int} (h : Gi w b n age g) (o : Nat) : w.frozen? ⟨b, o, none⟩ = false := by
  unfold Gi at h; simp [World.frozen?, h, gib]
theorem Gi.lt {w : World} {b : Nat} {n age : Int} {g : Nat → Int} (h : Gi w b n age g) : b < w.heap.size := lt_of_block h
theorem block_set {w : World} {b : Nat} {cs : Array Value} {t : TypeId} {fr : Nat × Nat} (h : w.heap[b]? = some (.cells cs t fr)) (i : Nat) (v : Value) :
    (w.setCell ⟨b, i, none⟩ v).heap[b]? = some (.cells (cs.setIfInBounds i v) t fr) := by
  have hlt := lt_of_block h
  have h' : w.heap[b] = .cells cs t fr := by simpa [Array.getElem?_eq_getElem hlt] using h
  show (w.heap.modify b _)[b]? = _
  rw [Array.getElem?_eq_getElem (by simpa using hlt), Array.getElem_modify_self, h']
  simp
def upd (g : Nat → Int) (k : Nat) (v : Int) : Nat → Int := fun j => if j = k then v else g j
theorem Gi.set {w : World} {b : Nat} {n age : Int} {g : Nat → Int} (h : Gi w b n age g) (k : Nat) (hk : k < 17) (v : Int) : Gi (w.setCell ⟨b, 2 + k, none⟩ (.int .i64 v)) b n age (upd g k v) := by
  unfold Gi at h ⊢
  rw [block_set h _ _]
  rcases sev k hk with rfl | rfl | rfl | rfl | rfl | rfl | rfl | rfl | rfl | rfl | rfl | rfl | rfl | rfl | rfl | rfl | rfl <;> simp [gib, upd]
theorem Gi.age {w : World} {b : Nat} {n age : Int} {g : Nat → Int} (h : Gi w b n age g) (v : Int) : Gi (w.setCell ⟨b, 1, none⟩ (.int .i64 v)) b n v g := by
  unfold Gi at h ⊢
  rw [block_set h _ _]
  simp [gib]
theorem Gi.congr {w : World} {b : Nat} {n age : Int} {g g' : Nat → Int} (h : Gi w b n age g) (he : ∀ k, k < 17 → g k = g' k) : Gi w b n age g' := by
  unfold Gi at h ⊢
  rw [h]
  simp only [gib, he 0 (by omega), he 1 (by omega), he 2 (by omega), he 3 (by omega), he 4 (by omega), he 5 (by omega), he 6 (by omega), he 7 (by omega), he 8 (by omega), he 9 (by omega), he 10 (by omega), he 11 (by omega), he 12 (by omega), he 13 (by omega), he 14 (by omega), he 15 (by omega), he 16 (by omega)]

theorem only_setCell {a w : World} {g : Nat} (h : a.grownBy w (some g)) {p : Addr} (hp : p.block = g) (u : Value) : a.grownBy (w.setCell p u) (some g) :=
  ⟨h.os, h.tape, h.output, by simpa [World.setCell] using h.size, fun i hi hne => (Below.heap_setCell w p u i (by
    rintro rfl
    exact hne (by rw [hp]))).trans (h.block i hi hne)⟩
theorem only_alloc {a w : World} {row : Option Nat} (h : a.grownBy w row) (o : Obj) : a.grownBy (w.alloc o) row :=
  ⟨h.os, h.tape, h.output, Nat.le_trans h.size (by simp), fun i hi hne => (Below.heap_alloc w o i (Nat.lt_of_lt_of_le hi h.size)).trans (h.block i hi hne)⟩
theorem grown_trans {a b c : World} {row : Option Nat} (h : a.grownBy b row) (k : b.grownBy c row) : a.grownBy c row :=
  ⟨k.os.trans h.os, k.tape.trans h.tape, k.output.trans h.output, Nat.le_trans h.size k.size, fun i hi hne => (k.block i (Nat.lt_of_lt_of_le hi h.size) hne).trans (h.block i hi hne)⟩
theorem below_only {B b : Nat} {a w w' : World} (h : Below B a w) (hg : w.grownBy w' (some b)) (hB : B ≤ b) (hw : B ≤ w.heap.size) : Below B a w' :=
  h.grown hg hw (fun k hk => by simp at hk; omega)

theorem isSpace (s : Int) (w : World) : Calls Try.prog 21 #[.int .i64 s] w fun e w' => e = .returned (.bool (decide (1 ≤ s) && decide (s ≤ 6))) ∧ w = w' := by
  by_cases h1 : 1 ≤ s
  · have hd : decide (1 ≤ s) = true := by simpa using h1
    go_enter Try.func21, Try.ntmps21
    go_wp2
    go_ret
    exact ⟨by rw [hd]; rfl, rfl⟩
  · have hd : decide (1 ≤ s) = false := by simpa using h1
    rw [hd]
    go_enter Try.func21, Try.ntmps21
    go_wp2
    go_ret
    exact ⟨rfl, rfl⟩

theorem aStore (b : Nat) (v u : Int) (w : World) (hc : w.cell? ⟨b, 1, none⟩ = some (.int .i64 u)) (hz : w.frozen? ⟨b, 1, none⟩ = false) :
    Calls Try.prog 20 #[.pointer (some ⟨b, 1, none⟩), .int .i64 v] w fun e w' => e = .returned (.tuple #[]) ∧ w' = w.setCell ⟨b, 1, none⟩ (.int .i64 v) := by
  have hst := run_call_store (P := Try.prog) Try.func28 (by kernel_rfl) (by kernel_rfl) (by kernel_rfl) (by kernel_rfl) (k := .i64) (y := v) hc hz
  go_enter Try.func20, Try.ntmps20
  go_wp2
  go_end0
  exact ⟨rfl, rfl⟩
theorem aLoad (b : Nat) (u : Int) (w : World) (hc : w.cell? ⟨b, 1, none⟩ = some (.int .i64 u)) :
    Calls Try.prog 22 #[.pointer (some ⟨b, 1, none⟩)] w fun e w' => e = .returned (.int .i64 u) ∧ w = w' := by
  have hl := run_call_load (P := Try.prog) Try.func29 (by kernel_rfl) (by kernel_rfl) (by kernel_rfl) .i64 (by kernel_rfl) hc
  go_enter Try.func22, Try.ntmps22
  go_wp2
  go_ret
  exact ⟨rfl, rfl⟩
theorem aAdd (b : Nat) (u : Int) (w : World) (h0 : 0 ≤ u) (h1 : u ≤ 1000000) (hc : w.cell? ⟨b, 1, none⟩ = some (.int .i64 u)) (hz : w.frozen? ⟨b, 1, none⟩ = false) :
    Calls Try.prog 26 #[.pointer (some ⟨b, 1, none⟩), .int .i64 1] w fun e w' => e = .returned (.int .i64 (u + 1)) ∧ w' = w.setCell ⟨b, 1, none⟩ (.int .i64 (u + 1)) := by
  have hadd := run_call_add (P := Try.prog) Try.func30 (by kernel_rfl) (by kernel_rfl) (by kernel_rfl) .i64 (by kernel_rfl) (y := 1) (s := u + 1) hc hz (by simp [go_sem]; rw [IntKind.wrap_i64]; omega)
  go_enter Try.func26, Try.ntmps26
  go_wp2
  go_ret
  exact ⟨rfl, rfl⟩

theorem new_ok (n : Int) (w : World) (h1 : 2 ≤ n) (h2 : n ≤ 16) :
    Calls Try.prog 7 #[.int .i64 n] w fun e w' => ∃ b, e = .returned (.tuple #[.pointer (some ⟨b, 0, none⟩), .int .i64 0]) ∧ Gi w' b n 1 (fun _ => 0) ∧ w.heap.size = b ∧ Below w.heap.size w w' ∧ b < w'.heap.size := by
  have hc : decide (n < 2) = false := by simp; omega
  have hd : decide (16 < n) = false := by simp; omega
  go_enter Try.func7, Try.ntmps7
  go_wp2_with fail
  refine (aStore w.heap.size 1 0 _ (by simp [go_sem]) (by simp [go_sem])).mono ?_
  rintro e w1 ⟨rfl, rfl⟩
  rw [World.setCell_alloc_at _ _ _ _ _ rfl]
  go_wp2_with fail
  go_ret2
  refine ⟨w.heap.size, rfl, ?_, rfl, (Below.refl _ _).alloc (Nat.le_refl _) _, by simp⟩
  exact heap_alloc_new _ _
theorem new_bad (n : Int) (w : World) (h : n < 2 ∨ 16 < n) :
    Calls Try.prog 7 #[.int .i64 n] w fun e w' => e = .returned (.tuple #[.pointer none, .int .i64 2]) ∧ w = w' := by
  by_cases h1 : n < 2
  · have hc : decide (n < 2) = true := by simpa using h1
    clear h
    go_enter Try.func7, Try.ntmps7
    go_wp2
    go_ret2
    exact ⟨rfl, rfl⟩
  · have hc : decide (n < 2) = false := by simpa using h1
    have hd : decide (16 < n) = true := by simp; omega
    clear h
    go_enter Try.func7, Try.ntmps7
    go_wp2
    go_ret2
    exact ⟨rfl, rfl⟩

theorem age_ok (b : Nat) (n age : Int) (g : Nat → Int) (w : World) (hg : Gi w b n age g) :
    Calls Try.prog 12 #[.pointer (some ⟨b, 0, none⟩)] w fun e w' => e = .returned (.int .i64 age) ∧ w = w' := by
  have hc := hg.c1
  clear hg
  go_enter Try.func12, Try.ntmps12
  go_wp2_with fail
  refine (aLoad b age _ hc).mono ?_
  rintro e w1 ⟨rfl, rfl⟩
  go_wp2_with fail
  go_ret
  exact ⟨rfl, rfl⟩

/-- The first place from a on, of f places, at which p says yes; 0: none. -/
def scan (p : Nat → Bool) : Nat → Nat → Nat
  | 0, _ => 0
  | f + 1, a => if p a = true then a else scan p f (a + 1)
theorem scan_yes {p : Nat → Bool} {f a : Nat} (h : p a = true) : scan p (f + 1) a = a := by simp [scan, h]
theorem scan_no {p : Nat → Bool} {f a : Nat} (h : p a = false) : scan p (f + 1) a = scan p f (a + 1) := by simp [scan, h]

theorem least_ok (b N : Nat) (age : Int) (g : Nat → Int) (w : World) (hg : Gi w b N age g) (hN : N ≤ 16) :
    Calls Try.prog 23 #[.pointer (some ⟨b, 0, none⟩)] w fun e w' => e = .returned (.int .i64 (scan (fun a => g a == 0) N 1)) ∧ w = w' := by
  have c0 := hg.c0
  have HG := Lib.hid hg
  clear hg
  go_enter Try.func23, Try.ntmps23
  go_wp2_with fail
  go_step3
  go_wp2_with fail
  go_step3
  go_wp2_with fail
  go_loop [3, 4] (fun t i => ∃ k f : Nat, 1 ≤ k ∧ k + f = N + 1 ∧ t = .int .i64 0 ∧ i = .int .i64 k ∧ scan (fun a => g a == 0) N 1 = scan (fun a => g a == 0) f k) (fun _ i => 17 - (intOf i).toNat)
  case atStart => exact ⟨1, N, by omega, by omega, rfl, rfl, rfl⟩
  case round =>
    obtain ⟨k, f, hk, hf, rfl, rfl, hs⟩ := hrel
    have HS := Lib.hid hs
    clear hs
    cases f with
    | zero =>
      have hkn : ¬ (k : Int) ≤ (N : Int) := by omega
      have hkn2 : decide (k ≤ N) = false := by simp; omega
      go_wp2_with fail
      go_ret
      exact ⟨by rw [HS.out]; rfl, rfl⟩
    | succ f =>
      have hkn : k ≤ N := by omega
      have hc := HG.out.c k (by omega)
      have hz : k < 17 := by omega
      cases hgk : (g k == 0)
      · have HP := Lib.hid (scan_no (p := fun a => g a == 0) (f := f) (a := k) hgk)
        go_wp2_with fail
        go_round
        case rel => exact ⟨k + 1, f, by omega, by omega, rfl, by go_num, HS.out.trans HP.out⟩
        case measure => simp [intOf]; omega
      · have HP := Lib.hid (scan_yes (p := fun a => g a == 0) (f := f) (a := k) hgk)
        go_wp2_with fail
        go_ret
        exact ⟨by rw [HS.out, HP.out]; rfl, rfl⟩

/-- What Of answers. -/
def ofA (N : Nat) (g : Nat → Int) (s : Int) : Nat := if 1 ≤ s ∧ s ≤ 6 then scan (fun a => g a == s) N 1 else 0
def ofB (N : Nat) (g : Nat → Int) (s : Int) : Bool := ofA N g s != 0

theorem of_ok (b N : Nat) (age : Int) (g : Nat → Int) (s : Int) (w : World) (hg : Gi w b N age g) (hN : N ≤ 16) :
    Calls Try.prog 11 #[.pointer (some ⟨b, 0, none⟩), .int .i64 s] w fun e w' => e = .returned (.tuple #[.int .i64 (ofA N g s), .bool (ofB N g s)]) ∧ w = w' := by
  have c0 := hg.c0
  have HG := Lib.hid hg
  clear hg
  by_cases hs : 1 ≤ s ∧ s ≤ 6
  · have hA : ofA N g s = scan (fun a => g a == s) N 1 := by simp [ofA, hs]
    unfold ofB
    rw [hA]
    obtain ⟨hs1, hs2⟩ := hs
    have hd : (decide (1 ≤ s) && decide (s ≤ 6)) = true := by simp; omega
    have HD := Lib.hid hd
    clear hA hd
    go_enter Try.func11, Try.ntmps11
    go_wp2_with fail
    refine (isSpace s _).mono ?_
    rw [HD.out]
    rintro e w' ⟨rfl, rfl⟩
    go_wp2_with fail
    go_loop [6] (fun i => ∃ k f : Nat, 1 ≤ k ∧ k + f = N + 1 ∧ i = .int .i64 k ∧ scan (fun a => g a == s) N 1 = scan (fun a => g a == s) f k) (fun i => 17 - (intOf i).toNat)
    case atStart => exact ⟨1, N, by omega, by omega, rfl, rfl⟩
    case round =>
      obtain ⟨k, f, hk, hf, rfl, hsc⟩ := hrel
      have HS := Lib.hid hsc
      clear hsc
      cases f with
      | zero =>
        have hkn : ¬ (k : Int) ≤ (N : Int) := by omega
        have hkn2 : decide (k ≤ N) = false := by simp; omega
        go_wp2_with fail
        go_ret2
        exact ⟨by rw [HS.out]; rfl, rfl⟩
      | succ f =>
        have hkn : k ≤ N := by omega
        have hc := HG.out.c k (by omega)
        have hz : k < 17 := by omega
        cases hgk : (g k == s)
        · have HP := Lib.hid (scan_no (p := fun a => g a == s) (f := f) (a := k) hgk)
          go_wp2_with fail
          go_round
          case rel => exact ⟨k + 1, f, by omega, by omega, by go_num, HS.out.trans HP.out⟩
          case measure => simp [intOf]; omega
        · have HP := Lib.hid (scan_yes (p := fun a => g a == s) (f := f) (a := k) hgk)
          go_wp2_with fail
          go_ret2
          have hk0 : (k != 0) = true := by simp; omega
          exact ⟨by rw [HS.out, HP.out, hk0]; rfl, rfl⟩
  · have hA : ofA N g s = 0 := by simp only [ofA]; rw [if_neg hs]
    have hd : (decide (1 ≤ s) && decide (s ≤ 6)) = false := by simp; omega
    unfold ofB
    rw [hA]
    have HD := Lib.hid hd
    clear hA hd hs
    go_enter Try.func11, Try.ntmps11
    go_wp2_with fail
    refine (isSpace s _).mono ?_
    rw [HD.out]
    rintro e w' ⟨rfl, rfl⟩
    go_wp2_with fail
    go_ret2
    exact ⟨rfl, rfl⟩

/-- What Gone makes of the giver. -/
def goneG (N : Nat) (g : Nat → Int) (s : Int) : Nat → Int := if ofA N g s = 0 then g else upd g (ofA N g s) 0
def sOk (s : Int) : Bool := decide (1 ≤ s) && decide (s ≤ 6)
def code (b : Bool) : Int := if b = true then 0 else 2

theorem scan_le (p : Nat → Bool) : ∀ f a, scan p f a = 0 ∨ (a ≤ scan p f a ∧ scan p f a < a + f ∧ p (scan p f a) = true)
  | 0, _ => .inl rfl
  | f + 1, a => by
    cases h : p a
    · rw [scan_no h]
      rcases scan_le p f (a + 1) with h' | ⟨h1, h2, h3⟩
      · exact .inl h'
      · exact .inr ⟨by omega, by omega, h3⟩
    · rw [scan_yes h]
      exact .inr ⟨by omega, by omega, h⟩
theorem ofA_le (N : Nat) (g : Nat → Int) (s : Int) : ofA N g s ≤ N := by
  unfold ofA
  split
  · rcases scan_le (fun a => g a == s) N 1 with h | ⟨h1, h2, h3⟩ <;> omega
  · omega

theorem gone_ok (b N : Nat) (age : Int) (g : Nat → Int) (s : Int) (w : World) (hg : Gi w b N age g) (hN : N ≤ 16) :
    Calls Try.prog 10 #[.pointer (some ⟨b, 0, none⟩), .int .i64 s] w fun e w' => e = .returned (.int .i64 (code (sOk s))) ∧ Gi w' b N age (goneG N g s) ∧ w.grownBy w' (some b) := by
  have HG := Lib.hid hg
  clear hg
  cases hs : sOk s
  · have HS := Lib.hid hs
    have hA : ofA N g s = 0 := by
      simp only [ofA]; rw [if_neg (by simp [sOk] at hs; omega)]
    have hgo : goneG N g s = g := by simp [goneG, hA]
    rw [hgo]
    clear hs hA hgo
    go_enter Try.func10, Try.ntmps10
    go_wp2_with fail
    refine (isSpace s _).mono ?_
    rw [show (decide (1 ≤ s) && decide (s ≤ 6)) = false from HS.out]
    rintro e w' ⟨rfl, rfl⟩
    go_wp2_with fail
    go_ret
    exact ⟨rfl, HG.out, World.grownBy.refl _ _⟩
  · have HS := Lib.hid hs
    clear hs
    go_enter Try.func10, Try.ntmps10
    go_wp2_with fail
    refine (isSpace s _).mono ?_
    rw [show (decide (1 ≤ s) && decide (s ≤ 6)) = true from HS.out]
    rintro e w' ⟨rfl, rfl⟩
    go_wp2_with fail
    refine (of_ok b N age g s _ HG.out hN).mono ?_
    unfold ofB
    have hle := ofA_le N g s
    by_cases hA : ofA N g s = 0
    · have hgo : goneG N g s = g := by simp [goneG, hA]
      have HGO := Lib.hid hgo
      rw [hA]
      clear hA hgo hle
      rintro e w' ⟨rfl, rfl⟩
      go_wp2_with fail
      go_ret
      exact ⟨rfl, by rw [HGO.out]; exact HG.out, World.grownBy.refl _ _⟩
    · have hgo : goneG N g s = upd g (ofA N g s) 0 := by simp [goneG, hA]
      have hb : (ofA N g s != 0) = true := by simpa using hA
      have HGO := Lib.hid hgo
      rw [hb]
      clear hA hgo hb
      generalize ofA N g s = A at *
      rintro e w' ⟨rfl, rfl⟩
      have hc := HG.out.c A (by omega)
      have hf := HG.out.free (2 + A)
      have hz : A < 17 := by omega
      go_wp2_with fail
      go_ret
      exact ⟨rfl, by rw [HGO.out]; exact HG.out.set A (by omega) 0, only_setCell (World.grownBy.refl _ _) rfl _⟩

/-- How many ASIDs from a on, of f, are free. -/
def cnt (g : Nat → Int) : Nat → Nat → Nat
  | 0, _ => 0
  | f + 1, a => (if g a = 0 then 1 else 0) + cnt g f (a + 1)
theorem cnt_le (g : Nat → Int) : ∀ f a, cnt g f a ≤ f
  | 0, _ => Nat.le_refl _
  | f + 1, a => by
    have := cnt_le g f (a + 1)
    simp only [cnt]
    split <;> omega

theorem free_ok (b N : Nat) (age : Int) (g : Nat → Int) (w : World) (hg : Gi w b N age g) (hN : N ≤ 16) :
    Calls Try.prog 18 #[.pointer (some ⟨b, 0, none⟩)] w fun e w' => e = .returned (.int .i64 (cnt g N 1)) ∧ w = w' := by
  have c0 := hg.c0
  have HG := Lib.hid hg
  clear hg
  go_enter Try.func18, Try.ntmps18
  go_wp2_with fail
  go_loop [3, 4] (fun t i => ∃ k f c : Nat, 1 ≤ k ∧ k + f = N + 1 ∧ c ≤ k ∧ t = .int .i64 c ∧ i = .int .i64 k ∧ cnt g N 1 = c + cnt g f k) (fun _ i => 17 - (intOf i).toNat)
  case atStart => exact ⟨1, N, 0, by omega, by omega, by omega, rfl, rfl, by omega⟩
  case round =>
    obtain ⟨k, f, c, hk, hf, hck, rfl, rfl, hs⟩ := hrel
    have HS := Lib.hid hs
    clear hs
    cases f with
    | zero =>
      have hkn : ¬ (k : Int) ≤ (N : Int) := by omega
      have hkn2 : decide (k ≤ N) = false := by simp; omega
      go_wp2_with fail
      go_ret
      exact ⟨by rw [HS.out]; rfl, rfl⟩
    | succ f =>
      have hkn : k ≤ N := by omega
      have hc := HG.out.c k (by omega)
      have hz : k < 17 := by omega
      cases hgk : (g k == 0)
      · have HP : Hid (cnt g (f + 1) k = cnt g f (k + 1)) := by
          have : ¬ g k = 0 := by simpa using hgk
          simp [Hid, cnt, this]
        go_wp2_with fail
        go_round
        case rel => exact ⟨k + 1, f, c, by omega, by omega, by omega, rfl, by go_num, by rw [HS.out, HP.out]⟩
        case measure => simp [intOf]; omega
      · have HP : Hid (cnt g (f + 1) k = 1 + cnt g f (k + 1)) := by
          have : g k = 0 := by simpa using hgk
          simp [Hid, cnt, this]
        go_wp2_with fail
        go_round
        case rel => exact ⟨k + 1, f, c + 1, by omega, by omega, by omega, by go_num, by go_num, by rw [HS.out, HP.out]; omega⟩
        case measure => simp [intOf]; omega
end Go.Proofs.Ytbdphbkpglhhaaa
