/- Contracts of package call: the readers of stretches. -/
import Derived.Test.YtgfnefcgpdkljaaB2
namespace Go.Proofs.Ytgfnefcgpdkljaa
open Go.ChangeShapes Go.WideShapes Go.ChangeAt Go.RowKit
set_option linter.unusedVariables false
attribute [local go_sem ↓] Go.wp_at_zero Go.wp_at_succ

theorem bcell {B : Nat} {W w1 : World} (hb : Below B W w1) {b o : Nat} (h : b < B) : w1.cell? ⟨b, o, none⟩ = W.cell? ⟨b, o, none⟩ := hb.cell (p := ⟨b, o, none⟩) h

/-- A reader's frame: its box of arguments, its result; all below is as it was. -/
structure Fr (w W : World) (a0 a1 a2 : Int) : Prop where
  bx : W.heap[w.heap.size]? = some (.cells #[.int .u64 a0, .int .u64 a1, .int .u64 a2] 23 (0, 0))
  rs : W.heap[w.heap.size + 1]? = some (.cells #[.int .i8 0, .int .u64 0, .int .i64 0, .bool false, .int .i64 0] 28 (0, 0))
  be : Below w.heap.size w W
theorem Fr.c {w W : World} {a0 a1 a2 : Int} (f : Fr w W a0 a1 a2) : W.cell? ⟨w.heap.size, 0, none⟩ = some (.int .u64 a0) ∧ W.cell? ⟨w.heap.size, 1, none⟩ = some (.int .u64 a1) ∧ W.cell? ⟨w.heap.size, 2, none⟩ = some (.int .u64 a2) := by
  have := f.bx
  simp [World.cell?, this]
theorem Fr.r {w W : World} {a0 a1 a2 : Int} (f : Fr w W a0 a1 a2) : (W.cell? ⟨w.heap.size + 1, 0, none⟩ = some (.int .i8 0) ∧ W.cell? ⟨w.heap.size + 1, 1, none⟩ = some (.int .u64 0) ∧ W.cell? ⟨w.heap.size + 1, 2, none⟩ = some (.int .i64 0) ∧ W.cell? ⟨w.heap.size + 1, 3, none⟩ = some (.bool false) ∧ W.cell? ⟨w.heap.size + 1, 4, none⟩ = some (.int .i64 0)) ∧
    (W.frozen? ⟨w.heap.size + 1, 0, none⟩ = false ∧ W.frozen? ⟨w.heap.size + 1, 1, none⟩ = false ∧ W.frozen? ⟨w.heap.size + 1, 2, none⟩ = false ∧ W.frozen? ⟨w.heap.size + 1, 3, none⟩ = false ∧ W.frozen? ⟨w.heap.size + 1, 4, none⟩ = false) := by
  have := f.rs
  simp [World.cell?, World.frozen?, this]
theorem Fr.mono {w W W1 : World} {a0 a1 a2 : Int} (f : Fr w W a0 a1 a2) (hb : Below W.heap.size W W1) : Fr w W1 a0 a1 a2 :=
  ⟨(hb.block _ (lt_of_block f.bx)).trans f.bx, (hb.block _ (lt_of_block f.rs)).trans f.rs, f.be.trans (hb.mono f.be.size)⟩
theorem Fr.start (w : World) (a0 a1 a2 : Int) : Fr w ((w.alloc (.cells #[.int .u64 a0, .int .u64 a1, .int .u64 a2] 23)).alloc (.cells #[.int .i8 0, .int .u64 0, .int .i64 0, .bool false, .int .i64 0] 28)).drew a0 a1 a2 :=
  ⟨(Below.heap_alloc _ _ _ (by simp)).trans (heap_alloc_new _ _), by
    have := heap_alloc_new (w.alloc (.cells #[.int .u64 a0, .int .u64 a1, .int .u64 a2] 23)) (.cells #[.int .i8 0, .int .u64 0, .int .i64 0, .bool false, .int .i64 0] 28)
    rw [World.size_alloc] at this
    exact this, (((Below.refl _ _).alloc (Nat.le_refl _) _).alloc (by simp) _).drew⟩
theorem Fr.lt {w W : World} {a0 a1 a2 : Int} (f : Fr w W a0 a1 a2) : w.heap.size + 1 < W.heap.size := lt_of_block f.rs

theorem stretch2T (k a0 a1 a2 la ln lr : Int) (bs p q r : Nat) (w : World) (hbool : (lenB la ln && rigB lr) = true)
    (hs0 : w.cell? ⟨bs, 0, none⟩ = some (.func (.func 29) #[] #[.pointer (some ⟨p, 0, none⟩), .pointer (some ⟨q, 0, none⟩)]))
    (hs1 : w.cell? ⟨bs, 1, none⟩ = some (.func (.func 30) #[] #[.pointer (some ⟨r, 0, none⟩)]))
    (hp : w.cell? ⟨p, 0, none⟩ = some (.int .u64 la)) (hq : w.cell? ⟨q, 0, none⟩ = some (.int .u64 ln)) (hr : w.cell? ⟨r, 2, none⟩ = some (.int .u64 lr))
    (lbs : bs < w.heap.size) (lp : p < w.heap.size) (lq : q < w.heap.size) (lrr : r < w.heap.size)
    (b0 : 0 ≤ la) (b1 : la ≤ 18446744073709551615) (n0 : 0 ≤ ln) (n1 : ln ≤ 18446744073709551615)
    (c0 : 0 ≤ a0) (c1 : a0 ≤ 18446744073709551615) (d0 : 0 ≤ a1) (d1 : a1 ≤ 18446744073709551615) :
    Calls Try.prog 22 #[.int .i8 k, .agg #[.int .u64 a0, .int .u64 a1, .int .u64 a2], .slice (some ⟨bs, 0, none⟩) 2 2] w fun e w' => e = .returned (.tuple #[.agg #[.int .i8 k, .int .u64 (a0 / 4096), .int .i64 (min (a1 / 4096) 1048576), .bool (a2 == 3), .int .i64 0], .bool true]) ∧ Below w.heap.size w w' := by
  have h := stretch2 k a0 a1 a2 la ln lr bs p q r w hs0 hs1 hp hq hr lbs lp lq lrr b0 b1 n0 n1 c0 c1 d0 d1
  rw [hbool] at h
  exact h
theorem stretch2F (k a0 a1 a2 la ln lr : Int) (bs p q r : Nat) (w : World) (hbool : (lenB la ln && rigB lr) = false)
    (hs0 : w.cell? ⟨bs, 0, none⟩ = some (.func (.func 29) #[] #[.pointer (some ⟨p, 0, none⟩), .pointer (some ⟨q, 0, none⟩)]))
    (hs1 : w.cell? ⟨bs, 1, none⟩ = some (.func (.func 30) #[] #[.pointer (some ⟨r, 0, none⟩)]))
    (hp : w.cell? ⟨p, 0, none⟩ = some (.int .u64 la)) (hq : w.cell? ⟨q, 0, none⟩ = some (.int .u64 ln)) (hr : w.cell? ⟨r, 2, none⟩ = some (.int .u64 lr))
    (lbs : bs < w.heap.size) (lp : p < w.heap.size) (lq : q < w.heap.size) (lrr : r < w.heap.size)
    (b0 : 0 ≤ la) (b1 : la ≤ 18446744073709551615) (n0 : 0 ≤ ln) (n1 : ln ≤ 18446744073709551615)
    (c0 : 0 ≤ a0) (c1 : a0 ≤ 18446744073709551615) (d0 : 0 ≤ a1) (d1 : a1 ≤ 18446744073709551615) :
    Calls Try.prog 22 #[.int .i8 k, .agg #[.int .u64 a0, .int .u64 a1, .int .u64 a2], .slice (some ⟨bs, 0, none⟩) 2 2] w fun e w' => e = .returned (.tuple #[.agg #[.int .i8 0, .int .u64 0, .int .i64 0, .bool false, .int .i64 0], .bool false]) ∧ Below w.heap.size w w' := by
  have h := stretch2 k a0 a1 a2 la ln lr bs p q r w hs0 hs1 hp hq hr lbs lp lq lrr b0 b1 n0 n1 c0 c1 d0 d1
  rw [hbool] at h
  exact h
theorem stretch1T (k a0 a1 a2 la ln : Int) (bs p q : Nat) (w : World) (hbool : lenB la ln = true)
    (hs0 : w.cell? ⟨bs, 0, none⟩ = some (.func (.func 29) #[] #[.pointer (some ⟨p, 0, none⟩), .pointer (some ⟨q, 0, none⟩)]))
    
    (hp : w.cell? ⟨p, 0, none⟩ = some (.int .u64 la)) (hq : w.cell? ⟨q, 0, none⟩ = some (.int .u64 ln)) 
    (lbs : bs < w.heap.size) (lp : p < w.heap.size) (lq : q < w.heap.size) 
    (b0 : 0 ≤ la) (b1 : la ≤ 18446744073709551615) (n0 : 0 ≤ ln) (n1 : ln ≤ 18446744073709551615)
    (c0 : 0 ≤ a0) (c1 : a0 ≤ 18446744073709551615) (d0 : 0 ≤ a1) (d1 : a1 ≤ 18446744073709551615) :
    Calls Try.prog 22 #[.int .i8 k, .agg #[.int .u64 a0, .int .u64 a1, .int .u64 a2], .slice (some ⟨bs, 0, none⟩) 1 1] w fun e w' => e = .returned (.tuple #[.agg #[.int .i8 k, .int .u64 (a0 / 4096), .int .i64 (min (a1 / 4096) 1048576), .bool (a2 == 3), .int .i64 0], .bool true]) ∧ Below w.heap.size w w' := by
  have h := stretch1 k a0 a1 a2 la ln bs p q w hs0 hp hq lbs lp lq b0 b1 n0 n1 c0 c1 d0 d1
  rw [hbool] at h
  exact h
theorem stretch1F (k a0 a1 a2 la ln : Int) (bs p q : Nat) (w : World) (hbool : lenB la ln = false)
    (hs0 : w.cell? ⟨bs, 0, none⟩ = some (.func (.func 29) #[] #[.pointer (some ⟨p, 0, none⟩), .pointer (some ⟨q, 0, none⟩)]))
    
    (hp : w.cell? ⟨p, 0, none⟩ = some (.int .u64 la)) (hq : w.cell? ⟨q, 0, none⟩ = some (.int .u64 ln)) 
    (lbs : bs < w.heap.size) (lp : p < w.heap.size) (lq : q < w.heap.size) 
    (b0 : 0 ≤ la) (b1 : la ≤ 18446744073709551615) (n0 : 0 ≤ ln) (n1 : ln ≤ 18446744073709551615)
    (c0 : 0 ≤ a0) (c1 : a0 ≤ 18446744073709551615) (d0 : 0 ≤ a1) (d1 : a1 ≤ 18446744073709551615) :
    Calls Try.prog 22 #[.int .i8 k, .agg #[.int .u64 a0, .int .u64 a1, .int .u64 a2], .slice (some ⟨bs, 0, none⟩) 1 1] w fun e w' => e = .returned (.tuple #[.agg #[.int .i8 0, .int .u64 0, .int .i64 0, .bool false, .int .i64 0], .bool false]) ∧ Below w.heap.size w w' := by
  have h := stretch1 k a0 a1 a2 la ln bs p q w hs0 hp hq lbs lp lq b0 b1 n0 n1 c0 c1 d0 d1
  rw [hbool] at h
  exact h

theorem reader1T (a0 a1 a2 : Int) (w : World) (hbool : (lenB a0 a1 && rigB a2) = true) (c0 : 0 ≤ a0) (c1 : a0 ≤ 18446744073709551615) (d0 : 0 ≤ a1) (d1 : a1 ≤ 18446744073709551615) :
    Calls Try.prog 21 #[.agg #[.int .u64 a0, .int .u64 a1, .int .u64 a2]] w fun e w' => e = .returned (.tuple #[.agg #[.int .i8 1, .int .u64 (a0 / 4096), .int .i64 (min (a1 / 4096) 1048576), .bool (a2 == 3), .int .i64 0], .bool true]) ∧ Below w.heap.size w w' := by
  have F0 := Lib.hid (Fr.start w a0 a1 a2); have HBB := Lib.hid hbool
  clear hbool
  go_enter Try.func21, Try.ntmps21
  go_wp2_with fail
  go_region_held3 (fun w' => w'.cell? ⟨w.heap.size, 0, none⟩ = some (.int .u64 a0) ∧ w'.cell? ⟨w.heap.size, 1, none⟩ = some (.int .u64 a1) ∧ w'.cell? ⟨w.heap.size, 2, none⟩ = some (.int .u64 a2)) (first | with_reducible exact F3.out.c | with_reducible exact (F2.out.mono ((Below.refl _ _).alloc (Nat.le_refl _) _)).c | with_reducible exact F2.out.c | with_reducible exact F1.out.c | go_keep)
    (first
      | (go_at_call 23; refine (islen a0 a1 a2 _).mono ?_; rintro e w1 ⟨p, q, rfl, hp, hq, hp0, hp1, hq0, hq1, hb⟩; have F1 := Lib.hid (F0.out.mono hb); clear hb)
      | (go_at_call 24; refine (rights a0 a1 a2 _).mono ?_; rintro e w2 ⟨r, rfl, hr, hr0, hr1, hb⟩; have F2 := Lib.hid (F1.out.mono hb); have hp2 := (bcell (o := 0) hb hp1).trans hp; have hq2 := (bcell (o := 0) hb hq1).trans hq; have hp3 := Nat.lt_of_lt_of_le hp1 hb.size; have hq3 := Nat.lt_of_lt_of_le hq1 hb.size; clear hb hp hq hp1 hq1)
      | (go_at_call 22; refine (stretch2T 1 a0 a1 a2 a0 a1 a2 w2.heap.size p q r _ HBB.out (by simp [go_sem]) (by simp [go_sem]) (by simpa [go_sem, hp3] using hp2) (by simpa [go_sem, hq3] using hq2) (by simpa [go_sem, hr1] using hr) (by simp) (by simp; omega) (by simp; omega) (by simp; omega) c0 c1 d0 d1 c0 c1 d0 d1).mono ?_; rintro e w3 ⟨rfl, hb⟩; have F3 := Lib.hid ((F2.out.mono ((Below.refl _ _).alloc (Nat.le_refl _) _)).mono hb); clear hb hp2 hq2 hr; obtain ⟨⟨rc0, rc1, rc2, rc3, rc4⟩, rf0, rf1, rf2, rf3, rf4⟩ := F3.out.r; have rlt := F3.out.lt; obtain ⟨kc0, kc1, kc2⟩ := F3.out.c))
  go_wp2_with fail
  refine bodyPost_ret (v := .tuple #[.agg #[.int .i8 1, .int .u64 (a0 / 4096), .int .i64 (min (a1 / 4096) 1048576), .bool (a2 == 3), .int .i64 0], .bool true]) (by simp [results, Try.results21, go_sem, rc0, rc1, rc2, rc3, rc4]) rfl ⟨rfl, ?_⟩
  have lb : w.heap.size ≤ w.heap.size + 1 := by omega
  exact ((((F3.out.be.setCell lb _).setCell lb _).setCell lb _).setCell lb _).setCell lb _

theorem reader1F (a0 a1 a2 : Int) (w : World) (hbool : (lenB a0 a1 && rigB a2) = false) (c0 : 0 ≤ a0) (c1 : a0 ≤ 18446744073709551615) (d0 : 0 ≤ a1) (d1 : a1 ≤ 18446744073709551615) :
    Calls Try.prog 21 #[.agg #[.int .u64 a0, .int .u64 a1, .int .u64 a2]] w fun e w' => e = .returned (.tuple #[.agg #[.int .i8 0, .int .u64 0, .int .i64 0, .bool false, .int .i64 0], .bool false]) ∧ Below w.heap.size w w' := by
  have F0 := Lib.hid (Fr.start w a0 a1 a2); have HBB := Lib.hid hbool
  clear hbool
  go_enter Try.func21, Try.ntmps21
  go_wp2_with fail
  go_region_held3 (fun w' => w'.cell? ⟨w.heap.size, 0, none⟩ = some (.int .u64 a0) ∧ w'.cell? ⟨w.heap.size, 1, none⟩ = some (.int .u64 a1) ∧ w'.cell? ⟨w.heap.size, 2, none⟩ = some (.int .u64 a2)) (first | with_reducible exact F3.out.c | with_reducible exact (F2.out.mono ((Below.refl _ _).alloc (Nat.le_refl _) _)).c | with_reducible exact F2.out.c | with_reducible exact F1.out.c | go_keep)
    (first
      | (go_at_call 23; refine (islen a0 a1 a2 _).mono ?_; rintro e w1 ⟨p, q, rfl, hp, hq, hp0, hp1, hq0, hq1, hb⟩; have F1 := Lib.hid (F0.out.mono hb); clear hb)
      | (go_at_call 24; refine (rights a0 a1 a2 _).mono ?_; rintro e w2 ⟨r, rfl, hr, hr0, hr1, hb⟩; have F2 := Lib.hid (F1.out.mono hb); have hp2 := (bcell (o := 0) hb hp1).trans hp; have hq2 := (bcell (o := 0) hb hq1).trans hq; have hp3 := Nat.lt_of_lt_of_le hp1 hb.size; have hq3 := Nat.lt_of_lt_of_le hq1 hb.size; clear hb hp hq hp1 hq1)
      | (go_at_call 22; refine (stretch2F 1 a0 a1 a2 a0 a1 a2 w2.heap.size p q r _ HBB.out (by simp [go_sem]) (by simp [go_sem]) (by simpa [go_sem, hp3] using hp2) (by simpa [go_sem, hq3] using hq2) (by simpa [go_sem, hr1] using hr) (by simp) (by simp; omega) (by simp; omega) (by simp; omega) c0 c1 d0 d1 c0 c1 d0 d1).mono ?_; rintro e w3 ⟨rfl, hb⟩; have F3 := Lib.hid ((F2.out.mono ((Below.refl _ _).alloc (Nat.le_refl _) _)).mono hb); clear hb hp2 hq2 hr; obtain ⟨⟨rc0, rc1, rc2, rc3, rc4⟩, rf0, rf1, rf2, rf3, rf4⟩ := F3.out.r; have rlt := F3.out.lt; obtain ⟨kc0, kc1, kc2⟩ := F3.out.c))
  go_wp2_with fail
  refine bodyPost_ret (v := .tuple #[.agg #[.int .i8 0, .int .u64 0, .int .i64 0, .bool false, .int .i64 0], .bool false]) (by simp [results, Try.results21, go_sem, rc0, rc1, rc2, rc3, rc4]) rfl ⟨rfl, ?_⟩
  have lb : w.heap.size ≤ w.heap.size + 1 := by omega
  exact ((((F3.out.be.setCell lb _).setCell lb _).setCell lb _).setCell lb _).setCell lb _

theorem reader3T (a0 a1 a2 : Int) (w : World) (hbool : (lenB a0 a1 && rigB a2) = true) (c0 : 0 ≤ a0) (c1 : a0 ≤ 18446744073709551615) (d0 : 0 ≤ a1) (d1 : a1 ≤ 18446744073709551615) :
    Calls Try.prog 26 #[.agg #[.int .u64 a0, .int .u64 a1, .int .u64 a2]] w fun e w' => e = .returned (.tuple #[.agg #[.int .i8 3, .int .u64 (a0 / 4096), .int .i64 (min (a1 / 4096) 1048576), .bool (a2 == 3), .int .i64 0], .bool true]) ∧ Below w.heap.size w w' := by
  have F0 := Lib.hid (Fr.start w a0 a1 a2); have HBB := Lib.hid hbool
  clear hbool
  go_enter Try.func26, Try.ntmps26
  go_wp2_with fail
  go_region_held3 (fun w' => w'.cell? ⟨w.heap.size, 0, none⟩ = some (.int .u64 a0) ∧ w'.cell? ⟨w.heap.size, 1, none⟩ = some (.int .u64 a1) ∧ w'.cell? ⟨w.heap.size, 2, none⟩ = some (.int .u64 a2)) (first | with_reducible exact F3.out.c | with_reducible exact (F2.out.mono ((Below.refl _ _).alloc (Nat.le_refl _) _)).c | with_reducible exact F2.out.c | with_reducible exact F1.out.c | go_keep)
    (first
      | (go_at_call 23; refine (islen a0 a1 a2 _).mono ?_; rintro e w1 ⟨p, q, rfl, hp, hq, hp0, hp1, hq0, hq1, hb⟩; have F1 := Lib.hid (F0.out.mono hb); clear hb)
      | (go_at_call 24; refine (rights a0 a1 a2 _).mono ?_; rintro e w2 ⟨r, rfl, hr, hr0, hr1, hb⟩; have F2 := Lib.hid (F1.out.mono hb); have hp2 := (bcell (o := 0) hb hp1).trans hp; have hq2 := (bcell (o := 0) hb hq1).trans hq; have hp3 := Nat.lt_of_lt_of_le hp1 hb.size; have hq3 := Nat.lt_of_lt_of_le hq1 hb.size; clear hb hp hq hp1 hq1)
      | (go_at_call 22; refine (stretch2T 3 a0 a1 a2 a0 a1 a2 w2.heap.size p q r _ HBB.out (by simp [go_sem]) (by simp [go_sem]) (by simpa [go_sem, hp3] using hp2) (by simpa [go_sem, hq3] using hq2) (by simpa [go_sem, hr1] using hr) (by simp) (by simp; omega) (by simp; omega) (by simp; omega) c0 c1 d0 d1 c0 c1 d0 d1).mono ?_; rintro e w3 ⟨rfl, hb⟩; have F3 := Lib.hid ((F2.out.mono ((Below.refl _ _).alloc (Nat.le_refl _) _)).mono hb); clear hb hp2 hq2 hr; obtain ⟨⟨rc0, rc1, rc2, rc3, rc4⟩, rf0, rf1, rf2, rf3, rf4⟩ := F3.out.r; have rlt := F3.out.lt; obtain ⟨kc0, kc1, kc2⟩ := F3.out.c))
  go_wp2_with fail
  refine bodyPost_ret (v := .tuple #[.agg #[.int .i8 3, .int .u64 (a0 / 4096), .int .i64 (min (a1 / 4096) 1048576), .bool (a2 == 3), .int .i64 0], .bool true]) (by simp [results, Try.results26, go_sem, rc0, rc1, rc2, rc3, rc4]) rfl ⟨rfl, ?_⟩
  have lb : w.heap.size ≤ w.heap.size + 1 := by omega
  exact ((((F3.out.be.setCell lb _).setCell lb _).setCell lb _).setCell lb _).setCell lb _

theorem reader3F (a0 a1 a2 : Int) (w : World) (hbool : (lenB a0 a1 && rigB a2) = false) (c0 : 0 ≤ a0) (c1 : a0 ≤ 18446744073709551615) (d0 : 0 ≤ a1) (d1 : a1 ≤ 18446744073709551615) :
    Calls Try.prog 26 #[.agg #[.int .u64 a0, .int .u64 a1, .int .u64 a2]] w fun e w' => e = .returned (.tuple #[.agg #[.int .i8 0, .int .u64 0, .int .i64 0, .bool false, .int .i64 0], .bool false]) ∧ Below w.heap.size w w' := by
  have F0 := Lib.hid (Fr.start w a0 a1 a2); have HBB := Lib.hid hbool
  clear hbool
  go_enter Try.func26, Try.ntmps26
  go_wp2_with fail
  go_region_held3 (fun w' => w'.cell? ⟨w.heap.size, 0, none⟩ = some (.int .u64 a0) ∧ w'.cell? ⟨w.heap.size, 1, none⟩ = some (.int .u64 a1) ∧ w'.cell? ⟨w.heap.size, 2, none⟩ = some (.int .u64 a2)) (first | with_reducible exact F3.out.c | with_reducible exact (F2.out.mono ((Below.refl _ _).alloc (Nat.le_refl _) _)).c | with_reducible exact F2.out.c | with_reducible exact F1.out.c | go_keep)
    (first
      | (go_at_call 23; refine (islen a0 a1 a2 _).mono ?_; rintro e w1 ⟨p, q, rfl, hp, hq, hp0, hp1, hq0, hq1, hb⟩; have F1 := Lib.hid (F0.out.mono hb); clear hb)
      | (go_at_call 24; refine (rights a0 a1 a2 _).mono ?_; rintro e w2 ⟨r, rfl, hr, hr0, hr1, hb⟩; have F2 := Lib.hid (F1.out.mono hb); have hp2 := (bcell (o := 0) hb hp1).trans hp; have hq2 := (bcell (o := 0) hb hq1).trans hq; have hp3 := Nat.lt_of_lt_of_le hp1 hb.size; have hq3 := Nat.lt_of_lt_of_le hq1 hb.size; clear hb hp hq hp1 hq1)
      | (go_at_call 22; refine (stretch2F 3 a0 a1 a2 a0 a1 a2 w2.heap.size p q r _ HBB.out (by simp [go_sem]) (by simp [go_sem]) (by simpa [go_sem, hp3] using hp2) (by simpa [go_sem, hq3] using hq2) (by simpa [go_sem, hr1] using hr) (by simp) (by simp; omega) (by simp; omega) (by simp; omega) c0 c1 d0 d1 c0 c1 d0 d1).mono ?_; rintro e w3 ⟨rfl, hb⟩; have F3 := Lib.hid ((F2.out.mono ((Below.refl _ _).alloc (Nat.le_refl _) _)).mono hb); clear hb hp2 hq2 hr; obtain ⟨⟨rc0, rc1, rc2, rc3, rc4⟩, rf0, rf1, rf2, rf3, rf4⟩ := F3.out.r; have rlt := F3.out.lt; obtain ⟨kc0, kc1, kc2⟩ := F3.out.c))
  go_wp2_with fail
  refine bodyPost_ret (v := .tuple #[.agg #[.int .i8 0, .int .u64 0, .int .i64 0, .bool false, .int .i64 0], .bool false]) (by simp [results, Try.results26, go_sem, rc0, rc1, rc2, rc3, rc4]) rfl ⟨rfl, ?_⟩
  have lb : w.heap.size ≤ w.heap.size + 1 := by omega
  exact ((((F3.out.be.setCell lb _).setCell lb _).setCell lb _).setCell lb _).setCell lb _

theorem reader2T (a0 a1 a2 : Int) (w : World) (hbool : lenB a0 a1 = true) (c0 : 0 ≤ a0) (c1 : a0 ≤ 18446744073709551615) (d0 : 0 ≤ a1) (d1 : a1 ≤ 18446744073709551615) :
    Calls Try.prog 25 #[.agg #[.int .u64 a0, .int .u64 a1, .int .u64 a2]] w fun e w' => e = .returned (.tuple #[.agg #[.int .i8 2, .int .u64 (a0 / 4096), .int .i64 (min (a1 / 4096) 1048576), .bool false, .int .i64 0], .bool true]) ∧ Below w.heap.size w w' := by
  have F0 := Lib.hid (Fr.start w a0 a1 a2); have HBB := Lib.hid hbool
  clear hbool
  go_enter Try.func25, Try.ntmps25
  go_wp2_with fail
  go_region_held3 (fun w' => w'.cell? ⟨w.heap.size, 0, none⟩ = some (.int .u64 a0) ∧ w'.cell? ⟨w.heap.size, 1, none⟩ = some (.int .u64 a1) ∧ w'.cell? ⟨w.heap.size, 2, none⟩ = some (.int .u64 a2)) (first | with_reducible exact F3.out.c | with_reducible exact (F1.out.mono ((Below.refl _ _).alloc (Nat.le_refl _) _)).c | with_reducible exact F1.out.c | go_keep)
    (first
      | (go_at_call 23; refine (islen a0 a1 a2 _).mono ?_; rintro e w1 ⟨p, q, rfl, hp, hq, hp0, hp1, hq0, hq1, hb⟩; have F1 := Lib.hid (F0.out.mono hb); clear hb)
      | (go_at_call 22; refine (stretch1T 2 a0 a1 0 a0 a1 w1.heap.size p q _ HBB.out (by simp [go_sem]) (by simpa [go_sem, hp1] using hp) (by simpa [go_sem, hq1] using hq) (by simp) (by simp; omega) (by simp; omega) c0 c1 d0 d1 c0 c1 d0 d1).mono ?_; rintro e w3 ⟨rfl, hb⟩; have F3 := Lib.hid ((F1.out.mono ((Below.refl _ _).alloc (Nat.le_refl _) _)).mono hb); clear hb hp hq; obtain ⟨⟨rc0, rc1, rc2, rc3, rc4⟩, rf0, rf1, rf2, rf3, rf4⟩ := F3.out.r; have rlt := F3.out.lt; obtain ⟨kc0, kc1, kc2⟩ := F3.out.c))
  go_wp2_with fail
  refine bodyPost_ret (v := .tuple #[.agg #[.int .i8 2, .int .u64 (a0 / 4096), .int .i64 (min (a1 / 4096) 1048576), .bool false, .int .i64 0], .bool true]) (by simp [results, Try.results25, go_sem, rc0, rc1, rc2, rc3, rc4]) rfl ⟨rfl, ?_⟩
  have lb : w.heap.size ≤ w.heap.size + 1 := by omega
  exact ((((F3.out.be.setCell lb _).setCell lb _).setCell lb _).setCell lb _).setCell lb _

theorem reader2F (a0 a1 a2 : Int) (w : World) (hbool : lenB a0 a1 = false) (c0 : 0 ≤ a0) (c1 : a0 ≤ 18446744073709551615) (d0 : 0 ≤ a1) (d1 : a1 ≤ 18446744073709551615) :
    Calls Try.prog 25 #[.agg #[.int .u64 a0, .int .u64 a1, .int .u64 a2]] w fun e w' => e = .returned (.tuple #[.agg #[.int .i8 0, .int .u64 0, .int .i64 0, .bool false, .int .i64 0], .bool false]) ∧ Below w.heap.size w w' := by
  have F0 := Lib.hid (Fr.start w a0 a1 a2); have HBB := Lib.hid hbool
  clear hbool
  go_enter Try.func25, Try.ntmps25
  go_wp2_with fail
  go_region_held3 (fun w' => w'.cell? ⟨w.heap.size, 0, none⟩ = some (.int .u64 a0) ∧ w'.cell? ⟨w.heap.size, 1, none⟩ = some (.int .u64 a1) ∧ w'.cell? ⟨w.heap.size, 2, none⟩ = some (.int .u64 a2)) (first | with_reducible exact F3.out.c | with_reducible exact (F1.out.mono ((Below.refl _ _).alloc (Nat.le_refl _) _)).c | with_reducible exact F1.out.c | go_keep)
    (first
      | (go_at_call 23; refine (islen a0 a1 a2 _).mono ?_; rintro e w1 ⟨p, q, rfl, hp, hq, hp0, hp1, hq0, hq1, hb⟩; have F1 := Lib.hid (F0.out.mono hb); clear hb)
      | (go_at_call 22; refine (stretch1F 2 a0 a1 0 a0 a1 w1.heap.size p q _ HBB.out (by simp [go_sem]) (by simpa [go_sem, hp1] using hp) (by simpa [go_sem, hq1] using hq) (by simp) (by simp; omega) (by simp; omega) c0 c1 d0 d1 c0 c1 d0 d1).mono ?_; rintro e w3 ⟨rfl, hb⟩; have F3 := Lib.hid ((F1.out.mono ((Below.refl _ _).alloc (Nat.le_refl _) _)).mono hb); clear hb hp hq; obtain ⟨⟨rc0, rc1, rc2, rc3, rc4⟩, rf0, rf1, rf2, rf3, rf4⟩ := F3.out.r; have rlt := F3.out.lt; obtain ⟨kc0, kc1, kc2⟩ := F3.out.c))
  go_wp2_with fail
  refine bodyPost_ret (v := .tuple #[.agg #[.int .i8 0, .int .u64 0, .int .i64 0, .bool false, .int .i64 0], .bool false]) (by simp [results, Try.results25, go_sem, rc0, rc1, rc2, rc3, rc4]) rfl ⟨rfl, ?_⟩
  have lb : w.heap.size ≤ w.heap.size + 1 := by omega
  exact ((((F3.out.be.setCell lb _).setCell lb _).setCell lb _).setCell lb _).setCell lb _

end Go.Proofs.Ytgfnefcgpdkljaa
