/- wakes of layer 10: it returns true. -/
import Derived.Test.YtnogeejfhojcnaaA3
namespace Go.Proofs.Ytnogeejfhojcnaa
open Go.ChangeShapes Go.WideShapes Go.ChangeAt Go.RowKit

theorem mon_new (n : Int) (w : World) : Mon (w.alloc (.cells #[.int .i64 n, .pointer none, .pointer none, .pointer none, .pointer none, .pointer none, .pointer none, .pointer none, .pointer none] 55)) w.heap.size n (fun _ => none) :=
  ⟨fun _ => none, heap_alloc_new _ _, fun _ _ => .inl ⟨rfl, rfl⟩⟩

theorem below_new {w w' : World} {o : Obj} (h : (w.alloc o).grownBy w' (some w.heap.size)) : Below w.heap.size w w' :=
  ⟨h.os, h.tape, h.output, by have := h.size; simp at this; omega, fun k hk => by
    rw [h.block k (by simp; omega) (by simp; omega), Below.heap_alloc _ _ _ hk]⟩

theorem new_mon (n : Int) (w : World) (h1 : 1 ≤ n) (h2 : n ≤ 8) :
    Calls Try.prog 7 #[.int .i64 n] w fun e w' => ∃ b, e = .returned (.tuple #[.pointer (some ⟨b, 0, none⟩), .int .i64 0]) ∧ Mon w' b n (fun _ => none) ∧ w.heap.size = b ∧ Below w.heap.size w w' ∧ b < w'.heap.size :=
  (new_ok n w h1 h2).mono fun _ _ ⟨he, hw⟩ => ⟨w.heap.size, he, by rw [hw]; exact mon_new n w, rfl, by rw [hw]; exact (Below.refl _ _).alloc (Nat.le_refl _) _, by rw [hw]; simp⟩

theorem below_only {B b : Nat} {a w w' : World} (h : Below B a w) (hg : w.grownBy w' (some b)) (hB : B ≤ b) (hw : B ≤ w.heap.size) : Below B a w' :=
  h.grown hg hw (fun k hk => by simp at hk; omega)

theorem wakes_ok (w : World) : Calls Try.prog 12 #[] w fun e w' => e = .returned (.bool true) ∧ Below w.heap.size w w' := by
  go_enter Try.func12, Try.ntmps12
  go_wp2_with fail
  refine (new_mon 2 _ (by omega) (by omega)).mono ?_
  rintro e w1 ⟨b, rfl, hm, hb, hB, hlt⟩
  have M1 := Lib.hid hm; have HB := Lib.hid hb; have B1 := Lib.hid hB
  clear hm hb hB
  go_wp2_with fail
  refine (set_ok b 2 1 5 _ _ M1.out (by omega) (by omega) (by omega) (by omega) (by omega)).mono ?_
  rintro e w2 ⟨rfl, hm, hg⟩
  have M2 := Lib.hid hm; have B2 := Lib.hid (below_only B1.out hg (by have := HB.out; omega) B1.out.size)
  clear hm hg
  go_wp2_with fail
  refine (wrote_ok b 2 1 5 _ _ M2.out (by omega) (by omega) (by omega)).mono ?_
  rintro e w3 ⟨rfl, hm, hg⟩
  have M3 := Lib.hid hm; have B3 := Lib.hid (below_only B2.out hg (by have := HB.out; omega) B2.out.size)
  clear hm hg
  go_wp2_with fail
  refine (is_ok b 2 1 5 _ _ M3.out (by omega) (by omega) (by omega)).mono ?_
  rintro e w4 ⟨rfl, rfl⟩
  rw [show isB (lose (updm (fun _ => none) (Int.toNat 1 - 1) (some 5)) 1 (fun v => v == 5) (Int.toNat 1 - 1)) 5 = true by decide]
  go_wp2_with fail
  refine (wrote_ok b 2 2 5 _ _ M3.out (by omega) (by omega) (by omega)).mono ?_
  rintro e w5 ⟨rfl, hm, hg⟩
  have M5 := Lib.hid hm; have B5 := Lib.hid (below_only B3.out hg (by have := HB.out; omega) B3.out.size)
  clear hm hg
  go_wp2_with fail
  refine (set_ok b 2 1 513 _ _ M5.out (by omega) (by omega) (by omega) (by omega) (by omega)).mono ?_
  rintro e w6 ⟨rfl, hm, hg⟩
  have M6 := Lib.hid hm; have B6 := Lib.hid (below_only B5.out hg (by have := HB.out; omega) B5.out.size)
  clear hm hg
  go_wp2_with fail
  refine (block_ok b 2 2 1 _ _ M6.out (by omega) (by omega) (by omega) (by omega) (by omega)).mono ?_
  rintro e w7 ⟨rfl, hm, hg⟩
  have M7 := Lib.hid hm; have B7 := Lib.hid (below_only B6.out hg (by have := HB.out; omega) B6.out.size)
  clear hm hg
  go_wp2_with fail
  refine (is_ok b 2 1 513 _ _ M7.out (by omega) (by omega) (by omega)).mono ?_
  rintro e w8 ⟨rfl, rfl⟩
  rw [show isB (lose (updm (lose (lose (updm (fun _ => none) (Int.toNat 1 - 1) (some 5)) 1 (fun v => v == 5)) 2 (fun v => v == 5)) (Int.toNat 1 - 1) (some 513)) 2 (fun v => v / 512 == 1) (Int.toNat 1 - 1)) 513 = false by decide]
  go_wp2_with fail
  go_ret
  exact ⟨rfl, B7.out⟩
end Go.Proofs.Ytnogeejfhojcnaa
