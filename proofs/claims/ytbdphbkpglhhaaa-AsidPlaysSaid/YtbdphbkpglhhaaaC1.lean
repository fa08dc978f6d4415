/- Layer 17: the document's giver: its blocks; New, Of, Free, least. -/
import Derived.Test.YtbdphbkpglhhaaaA7
import Derived.Laws.MakeOwn
import Derived.Laws.Rows
namespace Go.Proofs.Ytbdphbkpglhhaaa
open Go.ChangeShapes Go.WideShapes Go.ChangeAt Go.RowKit
set_option linter.unusedVariables false

/-- A row of M integers. -/
def rowM (M : Nat) (f : Nat → Int) : Array Value := ((List.range M).map fun j => Value.int .i64 (f j)).toArray
theorem rowM_get (M : Nat) (f : Nat → Int) (k : Nat) (hk : k < M) : (rowM M f)[k]? = some (.int .i64 (f k)) := by
  simp [rowM, hk]
theorem rowM_set (M : Nat) (f : Nat → Int) (k : Nat) (v : Int) : (rowM M f).setIfInBounds k (.int .i64 v) = rowM M (upd f k v) := by
  apply Array.ext'
  apply List.ext_getElem?
  intro i
  simp only [rowM, Array.toList_setIfInBounds, List.getElem?_set, List.getElem?_map, List.length_map, List.length_range]
  by_cases hi : k = i
  · subst hi
    by_cases hk : k < M
    · simp [hk, upd]
    · simp [hk, upd]
  · by_cases hk : i < M
    · simp [hi, hk, upd, Ne.symm hi]
    · simp [hi, hk]
theorem rowM_congr (M : Nat) (f g : Nat → Int) (h : ∀ k, k < M → f k = g k) : rowM M f = rowM M g := by
  unfold rowM
  congr 1
  apply List.map_congr_left
  intro a ha
  rw [h a (by simpa using ha)]

/-- The document's giver: whom each has, and the age. -/
structure Rf (w : World) (r h M : Nat) (now : Int) (f : Nat → Int) : Prop where
  gv : w.heap[r]? = some (.cells #[.slice (some ⟨h, 0, none⟩) M M, .int .i64 now] 47 (0, 0))
  has : w.heap[h]? = some (.cells (rowM M f) 3 (0, 0))
  ne : r ≠ h
theorem Rf.c0 {w : World} {r h M : Nat} {now : Int} {f : Nat → Int} (H : Rf w r h M now f) : w.cell? ⟨r, 0, none⟩ = some (.slice (some ⟨h, 0, none⟩) M M) := by simp [World.cell?, H.gv]
theorem Rf.c1 {w : World} {r h M : Nat} {now : Int} {f : Nat → Int} (H : Rf w r h M now f) : w.cell? ⟨r, 1, none⟩ = some (.int .i64 now) := by simp [World.cell?, H.gv]
theorem Rf.c {w : World} {r h M : Nat} {now : Int} {f : Nat → Int} (H : Rf w r h M now f) (k : Nat) (hk : k < M) : w.cell? ⟨h, k, none⟩ = some (.int .i64 (f k)) := by simp [World.cell?, H.has, rowM_get M f k hk]
theorem Rf.free {w : World} {r h M : Nat} {now : Int} {f : Nat → Int} (H : Rf w r h M now f) (o : Nat) : w.frozen? ⟨h, o, none⟩ = false := by simp [World.frozen?, H.has]
theorem Rf.freer {w : World} {r h M : Nat} {now : Int} {f : Nat → Int} (H : Rf w r h M now f) (o : Nat) : w.frozen? ⟨r, o, none⟩ = false := by simp [World.frozen?, H.gv]
theorem Rf.set {w : World} {r h M : Nat} {now : Int} {f : Nat → Int} (H : Rf w r h M now f) (k : Nat) (v : Int) : Rf (w.setCell ⟨h, k, none⟩ (.int .i64 v)) r h M now (upd f k v) :=
  ⟨(Below.heap_setCell _ _ _ _ (by simpa using H.ne)).trans H.gv, by rw [block_set H.has, rowM_set], H.ne⟩
theorem Rf.congr {w : World} {r h M : Nat} {now : Int} {f g : Nat → Int} (H : Rf w r h M now f) (he : ∀ k, k < M → f k = g k) : Rf w r h M now g := ⟨H.gv, by rw [H.has, rowM_congr M f g he], H.ne⟩
theorem Rf.drewN {w : World} {r h M : Nat} {now : Int} {f : Nat → Int} (H : Rf w r h M now f) (n : Nat) : Rf (w.drewN n) r h M now f := ⟨H.gv, H.has, H.ne⟩
theorem Rf.alloc {w : World} {r h M : Nat} {now : Int} {f : Nat → Int} (H : Rf w r h M now f) (o : Obj) : Rf (w.alloc o) r h M now f :=
  ⟨(Below.heap_alloc _ _ _ (lt_of_block H.gv)).trans H.gv, (Below.heap_alloc _ _ _ (lt_of_block H.has)).trans H.has, H.ne⟩
theorem Rf.other {w : World} {r h M : Nat} {now : Int} {f : Nat → Int} (H : Rf w r h M now f) {d : Nat} (h1 : d ≠ r) (h2 : d ≠ h) (o : Nat) (v : Value) : Rf (w.setCell ⟨d, o, none⟩ v) r h M now f :=
  ⟨(Below.heap_setCell _ _ _ _ (by simpa using Ne.symm h1)).trans H.gv, (Below.heap_setCell _ _ _ _ (by simpa using Ne.symm h2)).trans H.has, H.ne⟩

/-- New blocks, and writes to two blocks alone. -/
structure Two (a w : World) (r h : Nat) : Prop where
  os : w.os = a.os
  tape : w.tape = a.tape
  output : w.output = a.output
  size : a.heap.size ≤ w.heap.size
  block : ∀ i, i < a.heap.size → i ≠ r → i ≠ h → w.heap[i]? = a.heap[i]?
theorem Two.refl (w : World) (r h : Nat) : Two w w r h := ⟨rfl, rfl, rfl, Nat.le_refl _, fun _ _ _ _ => rfl⟩
theorem Two.setCell {a w : World} {r h : Nat} (H : Two a w r h) {p : Addr} (hp : p.block = r ∨ p.block = h ∨ a.heap.size ≤ p.block) (v : Value) : Two a (w.setCell p v) r h :=
  ⟨H.os, H.tape, H.output, by simpa [World.setCell] using H.size, fun i hi h1 h2 => (Below.heap_setCell w p v i (by omega)).trans (H.block i hi h1 h2)⟩
theorem Two.alloc {a w : World} {r h : Nat} (H : Two a w r h) (o : Obj) : Two a (w.alloc o) r h :=
  ⟨H.os, H.tape, H.output, Nat.le_trans H.size (by simp), fun i hi h1 h2 => (Below.heap_alloc w o i (Nat.lt_of_lt_of_le hi H.size)).trans (H.block i hi h1 h2)⟩
theorem Two.trans {a b c : World} {r h h' : Nat} (H : Two a b r h) (K : Two b c r h') (hh : h' = h ∨ a.heap.size ≤ h') : Two a c r h :=
  ⟨K.os.trans H.os, K.tape.trans H.tape, K.output.trans H.output, Nat.le_trans H.size K.size, fun i hi h1 h2 => (K.block i (Nat.lt_of_lt_of_le hi H.size) h1 (by omega)).trans (H.block i hi h1 h2)⟩
theorem Two.drewN {a w : World} {r h : Nat} (H : Two a w r h) (n : Nat) : Two a (w.drewN n) r h := ⟨H.os, H.tape, H.output, H.size, H.block⟩
theorem Two.at {a w : World} {r h x : Nat} {o : Obj} (H : Two a w r h) (hx : a.heap[x]? = some o) (h1 : x ≠ r) (h2 : x ≠ h) : w.heap[x]? = some o := (H.block x (lt_of_block' hx) h1 h2).trans hx
  where lt_of_block' {w : World} {x : Nat} {o : Obj} (hx : w.heap[x]? = some o) : x < w.heap.size := (Array.getElem?_eq_some_iff.1 hx).1
theorem below_two {B : Nat} {a w w' : World} {r h : Nat} (H : Below B a w) (K : Two w w' r h) (hr : B ≤ r) (hh : B ≤ h) (hw : B ≤ w.heap.size) : Below B a w' :=
  ⟨K.os.trans H.os, K.tape.trans H.tape, K.output.trans H.output, Nat.le_trans H.size K.size, fun i hi => (K.block i (by omega) (by omega) (by omega)).trans (H.block i hi)⟩

theorem info3 : (Try.prog.info? 3).map (fun i => (i.zero, i.size, i.bytes)) = some (some (.int .i64 0), 1, 8) := by kernel_rfl
theorem made_row (M : Nat) : madeCells (Value.int IntKind.i64 0).cells (M * 1) = rowM M fun _ => 0 := by
  apply Array.ext'
  apply List.ext_getElem?
  intro i
  simp [madeCells, rowM, Value.cells, Nat.mod_one]
theorem make_run (l : Int) (M : Nat) (hl : l = M) (hM : M ≤ 17) (w : World) :
    (Instr.makeSlice 30 (.int .i64 l) (.int .i64 l)).run Try.prog w = .ok (.slice (some ⟨w.heap.size, 0, none⟩) M M) (w.alloc (.cells (rowM M fun _ => 0) 3)) := by
  obtain ⟨i0, hi, hz0, hz1, hz2⟩ := info_parts info3
  subst hl
  have h := run_makeSlice (P := Try.prog) w 30 3 i0 (.int .i64 0) Try.underlying30 hi hz0 .i64 .i64 M M (by omega) (by omega) (by rw [hz1]; simp; omega) (by rw [hz2]; omega) (by omega)
  rw [h, hz1]
  simp only [Int.toNat_natCast, made_row]

theorem rnew_ok (N : Nat) (w : World) (h1 : 2 ≤ N) (h2 : N ≤ 16) :
    Calls Try.prog 14 #[.int .i64 N] w fun e w' => e = .returned (.tuple #[.pointer (some ⟨w.heap.size + 1, 0, none⟩), .int .i64 0]) ∧ Rf w' (w.heap.size + 1) w.heap.size (N + 1) 1 (fun _ => 0) ∧ Below w.heap.size w w' := by
  have hc : decide ((N : Int) < 2) = false := by simp; omega
  have hd : decide (16 < (N : Int)) = false := by simp; omega
  have hmk := make_run ((N : Int) + 1) (N + 1) (by omega) (by omega) w
  go_enter Try.func14, Try.ntmps14
  go_wp2_with fail
  go_ret2
  refine ⟨rfl, ⟨heap_alloc2_new _ _ _, heap_alloc2_old _ _ _, by omega⟩, ?_⟩
  exact ((Below.refl _ _).alloc (Nat.le_refl _) _).alloc (by simp) _
theorem rnew_bad (n : Int) (w : World) (h : n < 2 ∨ 16 < n) :
    Calls Try.prog 14 #[.int .i64 n] w fun e w' => e = .returned (.tuple #[.pointer none, .int .i64 2]) ∧ w = w' := by
  by_cases h1 : n < 2
  · have hc : decide (n < 2) = true := by simpa using h1
    clear h
    go_enter Try.func14, Try.ntmps14
    go_wp2
    go_ret2
    exact ⟨rfl, rfl⟩
  · have hc : decide (n < 2) = false := by simpa using h1
    have hd : decide (16 < n) = true := by simp; omega
    clear h
    go_enter Try.func14, Try.ntmps14
    go_wp2
    go_ret2
    exact ⟨rfl, rfl⟩

theorem rof_ok (r h N M : Nat) (now : Int) (f : Nat → Int) (s : Int) (w : World) (hg : Rf w r h M now f) (hM : M = N + 1) (hN : N ≤ 16) :
    Calls Try.prog 17 #[.pointer (some ⟨r, 0, none⟩), .int .i64 s] w fun e w' => e = .returned (.tuple #[.int .i64 (ofA N f s), .bool (ofB N f s)]) ∧ w = w' := by
  have e0 := hg.c0
  have HG := Lib.hid hg; have HM := Lib.hid hM
  have hM17 : M ≤ 17 := by omega
  clear hg hM
  by_cases hs : 1 ≤ s ∧ s ≤ 6
  · have hA : ofA N f s = scan (fun a => f a == s) N 1 := by simp [ofA, hs]
    unfold ofB
    rw [hA]
    have d1 : decide (s < 1) = false := by simp; omega
    have d2 : decide (6 < s) = false := by simp; omega
    clear hA hs
    go_enter Try.func17, Try.ntmps17
    go_wp2_with fail
    go_loop [6] (fun i => ∃ k q : Nat, 1 ≤ k ∧ k + q = M ∧ i = .int .i64 k ∧ scan (fun a => f a == s) N 1 = scan (fun a => f a == s) q k) (fun i => 17 - (intOf i).toNat)
    case atStart => exact ⟨1, N, by omega, by have := HM.out; omega, rfl, rfl⟩
    case round =>
      obtain ⟨k, q, hk, hf, rfl, hsc⟩ := hrel
      have HS := Lib.hid hsc
      have HF := Lib.hid hf
      clear hsc
      cases q with
      | zero =>
        have hkn : ¬ (k : Int) < (M : Int) := by omega
        have hkn2 : decide (k < M) = false := by simp; omega
        clear hf
        go_wp2_with fail
        go_ret2
        exact ⟨by rw [HS.out]; rfl, rfl⟩
      | succ q =>
        have hkn : k < M := by omega
        have hc := HG.out.c k hkn
        clear hf
        cases hgk : (f k == s)
        · have HP := Lib.hid (scan_no (p := fun a => f a == s) (f := q) (a := k) hgk)
          go_wp2_with fail
          go_round
          case rel => exact ⟨k + 1, q, by omega, by have := HF.out; omega, by go_num, HS.out.trans HP.out⟩
          case measure => simp [intOf]; omega
        · have HP := Lib.hid (scan_yes (p := fun a => f a == s) (f := q) (a := k) hgk)
          go_wp2_with fail
          go_ret2
          have hk0 : (k != 0) = true := by simp; omega
          exact ⟨by rw [HS.out, HP.out, hk0]; rfl, rfl⟩
  · have hA : ofA N f s = 0 := by simp only [ofA]; rw [if_neg hs]
    unfold ofB
    rw [hA]
    clear hA
    by_cases h1 : s < 1
    · have d1 : decide (s < 1) = true := by simpa using h1
      clear hs
      go_enter Try.func17, Try.ntmps17
      go_wp2_with fail
      go_ret2
      exact ⟨rfl, rfl⟩
    · have d1 : decide (s < 1) = false := by simpa using h1
      have d2 : decide (6 < s) = true := by simp; omega
      clear hs
      go_enter Try.func17, Try.ntmps17
      go_wp2_with fail
      go_ret2
      exact ⟨rfl, rfl⟩

theorem rfree_ok (r h N M : Nat) (now : Int) (g : Nat → Int) (w : World) (hg : Rf w r h M now g) (hM : M = N + 1) (hN : N ≤ 16) :
    Calls Try.prog 19 #[.pointer (some ⟨r, 0, none⟩)] w fun e w' => e = .returned (.int .i64 (cnt g N 1)) ∧ w = w' := by
  have e0 := hg.c0
  have HG := Lib.hid hg; have HM := Lib.hid hM
  have hM17 : M ≤ 17 := by omega
  clear hg hM
  go_enter Try.func19, Try.ntmps19
  go_wp2_with fail
  go_loop [3, 4] (fun t i => ∃ k f c : Nat, 1 ≤ k ∧ k + f = M ∧ c ≤ k ∧ t = .int .i64 c ∧ i = .int .i64 k ∧ cnt g N 1 = c + cnt g f k) (fun _ i => 17 - (intOf i).toNat)
  case atStart => exact ⟨1, N, 0, by omega, by have := HM.out; omega, by omega, rfl, rfl, by omega⟩
  case round =>
    obtain ⟨k, f, c, hk, hf, hck, rfl, rfl, hs⟩ := hrel
    have HS := Lib.hid hs
    have HF := Lib.hid hf
    clear hs
    cases f with
    | zero =>
      have hkn : ¬ (k : Int) < (M : Int) := by omega
      have hkn2 : decide (k < M) = false := by simp; omega
      clear hf
      go_wp2_with fail
      go_ret
      exact ⟨by rw [HS.out]; rfl, rfl⟩
    | succ f =>
      have hkn : k < M := by omega
      have hc := HG.out.c k hkn
      clear hf
      cases hgk : (g k == 0)
      · have HP : Hid (cnt g (f + 1) k = cnt g f (k + 1)) := by
          have : ¬ g k = 0 := by simpa using hgk
          simp [Hid, cnt, this]
        go_wp2_with fail
        go_round
        case rel => exact ⟨k + 1, f, c, by omega, by have := HF.out; omega, by omega, rfl, by go_num, by rw [HS.out, HP.out]⟩
        case measure => simp [intOf]; omega
      · have HP : Hid (cnt g (f + 1) k = 1 + cnt g f (k + 1)) := by
          have : g k = 0 := by simpa using hgk
          simp [Hid, cnt, this]
        go_wp2_with fail
        go_round
        case rel => exact ⟨k + 1, f, c + 1, by omega, by have := HF.out; omega, by omega, by go_num, by go_num, by rw [HS.out, HP.out]; omega⟩
        case measure => simp [intOf]; omega

theorem rleast_ok (r h N M : Nat) (now : Int) (g : Nat → Int) (s : Int) (w : World) (hg : Rf w r h M now g) (hM : M = N + 1) (hN : N ≤ 16) (hL : leastA N g ≠ 0) :
    Calls Try.prog 27 #[.pointer (some ⟨r, 0, none⟩), .int .i64 s] w fun e w' => e = .returned (.int .i64 (leastA N g)) ∧ Rf w' r h M now (upd g (leastA N g) s) ∧ Two w w' r h := by
  have e0 := hg.c0
  have HG := Lib.hid hg; have HM := Lib.hid hM; have HL := Lib.hid hL
  have hM17 : M ≤ 17 := by omega
  clear hg hM hL
  go_enter Try.func27, Try.ntmps27
  go_wp2_with fail
  go_loop [5] (fun i => ∃ k q : Nat, 1 ≤ k ∧ k + q = M ∧ i = .int .i64 k ∧ leastA N g = scan (fun a => g a == 0) q k) (fun i => 17 - (intOf i).toNat)
  case atStart => exact ⟨1, N, by omega, by have := HM.out; omega, rfl, rfl⟩
  case round =>
    obtain ⟨k, q, hk, hf, rfl, hsc⟩ := hrel
    have HS := Lib.hid hsc
    have HF := Lib.hid hf
    clear hsc
    cases q with
    | zero => exact absurd HS.out HL.out
    | succ q =>
      have hkn : k < M := by omega
      have hc := HG.out.c k hkn
      have hz := HG.out.free k
      clear hf
      cases hgk : (g k == 0)
      · have HP := Lib.hid (scan_no (p := fun a => g a == 0) (f := q) (a := k) hgk)
        go_wp2_with fail
        go_round
        case rel => exact ⟨k + 1, q, by omega, by have := HF.out; omega, by go_num, HS.out.trans HP.out⟩
        case measure => simp [intOf]; omega
      · have HP := Lib.hid (scan_yes (p := fun a => g a == 0) (f := q) (a := k) hgk)
        go_wp2_with fail
        go_ret
        exact ⟨by rw [HS.out, HP.out]; rfl, by rw [HS.out, HP.out]; exact HG.out.set k s, (Two.refl _ _ _).setCell (.inr (.inl rfl)) _⟩
end Go.Proofs.Ytbdphbkpglhhaaa
