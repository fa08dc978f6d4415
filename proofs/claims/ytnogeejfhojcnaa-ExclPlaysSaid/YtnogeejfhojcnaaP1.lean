/- Layer 10: one step of a play, on the program and on the document's answer. -/
import Derived.Test.YtnogeejfhojcnaaR4
import Derived.Deep.RegionHeld3
import Derived.Deep.DrawnRows
namespace Go.Proofs.Ytnogeejfhojcnaa
open Go.ChangeShapes Go.WideShapes Go.ChangeAt Go.RowKit
set_option linter.unusedVariables false
attribute [local go_sem ↓] Go.wp_at_zero Go.wp_at_succ

def actb (dd co wo fo k wd vl fr fm : Int) : Obj := .cells #[.int .i64 dd, .int .i64 co, .int .u64 wo, .int .i64 fo, .int .i8 k, .int .u64 wd, .int .u64 vl, .int .i64 fr, .int .i64 fm] 46 (0, 0)

/-- The monitors of the program, of the document, an act's block; what lies below B is as it was. -/
structure Duo (B : Nat) (w0 w : World) (b r ab : Nat) (n : Int) (m m' : Nat → Option Int) (A : Obj) : Prop where
  mon : Mon w b n m
  ref : Ref w r n m'
  act : w.heap[ab]? = some A
  hb : B ≤ b
  hr : B ≤ r
  below : Below B w0 w
  size : B ≤ w.heap.size
  ne : b ≠ ab
  ne' : r ≠ ab

theorem Ref.only {w w' : World} {b r : Nat} {n : Int} {m : Nat → Option Int} (h : Ref w r n m) (hg : w.grownBy w' (some b)) (hne : r ≠ b) : Ref w' r n m :=
  (hg.block r h.lt (by simpa using hne)).trans h
theorem Mon.only {w w' : World} {b r : Nat} {n : Int} {m m' : Nat → Option Int} (h : Mon w b n m) (hr : Ref w r n m') (hg : w.grownBy w' (some r)) : Mon w' b n m :=
  h.kept fun i cs t hi ht => hg.block i (lt_of_block hi) (by
    intro e
    simp only [Option.some.injEq] at e
    subst e
    rw [Ref] at hr
    rw [hr] at hi
    simp only [refb, Option.some.injEq, Obj.cells.injEq] at hi
    rcases ht with rfl | rfl
    · exact absurd hi.2.1 (by decide)
    · exact absurd hi.2.1 (by decide))
theorem mon_ref_ne {w : World} {b r : Nat} {n : Int} {m m' : Nat → Option Int} (h : Mon w b n m) (hr : Ref w r n m') : r ≠ b := by
  rintro rfl
  obtain ⟨P, hb, _⟩ := h
  rw [Ref] at hr
  rw [hr] at hb
  simp [refb, exb] at hb

theorem Duo.x {B : Nat} {w0 w w' : World} {b r ab : Nat} {n : Int} {m m' m1 : Nat → Option Int} {A : Obj} (d : Duo B w0 w b r ab n m m' A) (hm : Mon w' b n m1) (hg : w.grownBy w' (some b)) : Duo B w0 w' b r ab n m1 m' A :=
  ⟨hm, d.ref.only hg (mon_ref_ne d.mon d.ref), (hg.block ab (lt_of_block d.act) (by have := d.ne; simp; omega)).trans d.act, d.hb, d.hr, below_only d.below hg d.hb d.size, Nat.le_trans d.size hg.size, d.ne, d.ne'⟩
theorem Duo.r {B : Nat} {w0 w w' : World} {b r ab : Nat} {n : Int} {m m' m1 : Nat → Option Int} {A : Obj} (d : Duo B w0 w b r ab n m m' A) (hm : Ref w' r n m1) (hg : w.grownBy w' (some r)) : Duo B w0 w' b r ab n m m1 A :=
  ⟨d.mon.only d.ref hg, hm, (hg.block ab (lt_of_block d.act) (by have := d.ne'; simp; omega)).trans d.act, d.hb, d.hr, below_only d.below hg d.hr d.size, Nat.le_trans d.size hg.size, d.ne, d.ne'⟩
theorem Duo.drew {B : Nat} {w0 w : World} {b r ab : Nat} {n : Int} {m m' : Nat → Option Int} {A : Obj} (d : Duo B w0 w b r ab n m m' A) : Duo B w0 w.drew b r ab n m m' A :=
  ⟨d.mon, d.ref, d.act, d.hb, d.hr, d.below.drew, d.size, d.ne, d.ne'⟩

theorem Duo.c {B : Nat} {w0 w : World} {b r ab : Nat} {n : Int} {m m' : Nat → Option Int} {dd co wo fo k wd vl fr fm : Int} (d : Duo B w0 w b r ab n m m' (actb dd co wo fo k wd vl fr fm)) :
    w.cell? ⟨ab, 1, none⟩ = some (.int .i64 co) ∧ w.cell? ⟨ab, 2, none⟩ = some (.int .u64 wo) ∧ w.cell? ⟨ab, 3, none⟩ = some (.int .i64 fo) ∧
    w.cell? ⟨ab, 4, none⟩ = some (.int .i8 k) ∧ w.cell? ⟨ab, 5, none⟩ = some (.int .u64 wd) ∧ w.cell? ⟨ab, 6, none⟩ = some (.int .u64 vl) ∧ w.cell? ⟨ab, 7, none⟩ = some (.int .i64 fr) ∧ w.cell? ⟨ab, 8, none⟩ = some (.int .i64 fm) := by
  have := d.act
  simp [World.cell?, this, actb]
theorem dxset {B : Nat} {w0 w : World} {b r ab : Nat} {n : Int} {m m' : Nat → Option Int} {A : Obj} (c word : Int) (d : Duo B w0 w b r ab n m m' A) (h8 : n ≤ 8) (h4 : 0 ≤ word) (h5 : word ≤ 18446744073709551615) :
    Calls Try.prog 8 #[.pointer (some ⟨b, 0, none⟩), .int .i64 c, .int .u64 word] w fun e w' => e = .returned (.int .i64 (code (okc n c))) ∧ Duo B w0 w' b r ab n (nSet n c word m) m' A :=
  (xset b n c word m w d.mon h8 h4 h5).mono fun _ _ ⟨he, hm, hg⟩ => ⟨he, d.x hm hg⟩
theorem drset {B : Nat} {w0 w : World} {b r ab : Nat} {n : Int} {m m' : Nat → Option Int} {A : Obj} (c word : Int) (d : Duo B w0 w b r ab n m m' A) (h8 : n ≤ 8) :
    Calls Try.prog 23 #[.pointer (some ⟨r, 0, none⟩), .int .i64 c, .int .u64 word] w fun e w' => e = .returned (.int .i64 (code (okc n c))) ∧ Duo B w0 w' b r ab n m (nSet n c word m') A :=
  (rset r n c word m' w d.ref h8).mono fun _ _ ⟨he, hm, hg⟩ => ⟨he, d.r hm hg⟩
theorem dxclear {B : Nat} {w0 w : World} {b r ab : Nat} {n : Int} {m m' : Nat → Option Int} {A : Obj} (c : Int) (d : Duo B w0 w b r ab n m m' A) (h8 : n ≤ 8) :
    Calls Try.prog 13 #[.pointer (some ⟨b, 0, none⟩), .int .i64 c] w fun e w' => e = .returned (.int .i64 (code (okc n c))) ∧ Duo B w0 w' b r ab n (nClear n c m) m' A :=
  (xclear b n c m w d.mon h8).mono fun _ _ ⟨he, hm, hg⟩ => ⟨he, d.x hm hg⟩
theorem drclear {B : Nat} {w0 w : World} {b r ab : Nat} {n : Int} {m m' : Nat → Option Int} {A : Obj} (c : Int) (d : Duo B w0 w b r ab n m m' A) (h8 : n ≤ 8) :
    Calls Try.prog 24 #[.pointer (some ⟨r, 0, none⟩), .int .i64 c] w fun e w' => e = .returned (.int .i64 (code (okc n c))) ∧ Duo B w0 w' b r ab n m (nClear n c m') A :=
  (rclear r n c m' w d.ref h8).mono fun _ _ ⟨he, hm, hg⟩ => ⟨he, d.r hm hg⟩
theorem dxwrote {B : Nat} {w0 w : World} {b r ab : Nat} {n : Int} {m m' : Nat → Option Int} {A : Obj} (c word : Int) (d : Duo B w0 w b r ab n m m' A) (h8 : n ≤ 8) :
    Calls Try.prog 9 #[.pointer (some ⟨b, 0, none⟩), .int .i64 c, .int .u64 word] w fun e w' => e = .returned (.int .i64 (code (okc n c))) ∧ Duo B w0 w' b r ab n (nWrote n c word m) m' A :=
  (xwrote b n c word m w d.mon h8).mono fun _ _ ⟨he, hm, hg⟩ => ⟨he, d.x hm hg⟩
theorem drwrote {B : Nat} {w0 w : World} {b r ab : Nat} {n : Int} {m m' : Nat → Option Int} {A : Obj} (c word : Int) (d : Duo B w0 w b r ab n m m' A) (h0 : 1 ≤ n) (h8 : n ≤ 8) (hz : ∀ j : Nat, n ≤ j → m' j = none) :
    Calls Try.prog 25 #[.pointer (some ⟨r, 0, none⟩), .int .i64 c, .int .u64 word] w fun e w' => e = .returned (.int .i64 (code (okc n c))) ∧ Duo B w0 w' b r ab n m (nWrote n c word m') A :=
  (rwrote r n c word m' w d.ref h0 h8 hz).mono fun _ _ ⟨he, hm, hg⟩ => ⟨he, d.r hm hg⟩
theorem dxblock {B : Nat} {w0 w : World} {b r ab : Nat} {n : Int} {m m' : Nat → Option Int} {A : Obj} (c f : Int) (d : Duo B w0 w b r ab n m m' A) (h8 : n ≤ 8) :
    Calls Try.prog 11 #[.pointer (some ⟨b, 0, none⟩), .int .i64 c, .int .i64 f] w fun e w' => e = .returned (.int .i64 (code (okf n c f))) ∧ Duo B w0 w' b r ab n (nBlock n c f m) m' A :=
  (xblock b n c f m w d.mon h8).mono fun _ _ ⟨he, hm, hg⟩ => ⟨he, d.x hm hg⟩
theorem drblock {B : Nat} {w0 w : World} {b r ab : Nat} {n : Int} {m m' : Nat → Option Int} {A : Obj} (c f : Int) (d : Duo B w0 w b r ab n m m' A) (h0 : 1 ≤ n) (h8 : n ≤ 8) (hz : ∀ j : Nat, n ≤ j → m' j = none) (hv : ∀ (j : Nat), 0 ≤ ofWord (m' j) ∧ ofWord (m' j) ≤ 18446744073709551615) :
    Calls Try.prog 26 #[.pointer (some ⟨r, 0, none⟩), .int .i64 c, .int .i64 f] w fun e w' => e = .returned (.int .i64 (code (okf n c f))) ∧ Duo B w0 w' b r ab n m (nBlock n c f m') A :=
  (rblock r n c f m' w d.ref h0 h8 hz hv).mono fun _ _ ⟨he, hm, hg⟩ => ⟨he, d.r hm hg⟩
theorem dxreach {B : Nat} {w0 w : World} {b r ab : Nat} {n : Int} {m m' : Nat → Option Int} {A : Obj} (c k wd vl fr fm : Int) (d : Duo B w0 w b r ab n m m' A) (h8 : n ≤ 8) :
    Calls Try.prog 18 #[.pointer (some ⟨b, 0, none⟩), .int .i64 c, .agg #[.int .i8 k, .int .u64 wd, .int .u64 vl, .int .i64 fr, .int .i64 fm]] w fun e w' => e = .returned (.int .i64 (cReach n c k fm)) ∧ Duo B w0 w' b r ab n (nReach n c k wd fm m) m' A :=
  (xreach b n c k wd vl fr fm m w d.mon h8).mono fun _ _ ⟨he, hm, hg⟩ => ⟨he, d.x hm hg⟩
theorem drreach {B : Nat} {w0 w : World} {b r ab : Nat} {n : Int} {m m' : Nat → Option Int} {A : Obj} (c k wd vl fr fm : Int) (d : Duo B w0 w b r ab n m m' A) (h0 : 1 ≤ n) (h8 : n ≤ 8) (hz : ∀ j : Nat, n ≤ j → m' j = none) (hv : ∀ (j : Nat), 0 ≤ ofWord (m' j) ∧ ofWord (m' j) ≤ 18446744073709551615) :
    Calls Try.prog 27 #[.pointer (some ⟨r, 0, none⟩), .int .i64 c, .agg #[.int .i8 k, .int .u64 wd, .int .u64 vl, .int .i64 fr, .int .i64 fm]] w fun e w' => e = .returned (.int .i64 (cReach n c k fm)) ∧ Duo B w0 w' b r ab n m (nReach n c k wd fm m') A :=
  (rreach r n c k wd vl fr fm m' w d.ref h0 h8 hz hv).mono fun _ _ ⟨he, hm, hg⟩ => ⟨he, d.r hm hg⟩
theorem dxis {B : Nat} {w0 w : World} {b r ab : Nat} {n : Int} {m m' : Nat → Option Int} {A : Obj} (c word : Int) (d : Duo B w0 w b r ab n m m' A) (h8 : n ≤ 8) :
    Calls Try.prog 10 #[.pointer (some ⟨b, 0, none⟩), .int .i64 c, .int .u64 word] w fun e w' => e = .returned (.bool (aIs n c word m)) ∧ Duo B w0 w' b r ab n m m' A :=
  (xis b n c word m w d.mon h8).mono fun _ _ ⟨he, hw⟩ => ⟨he, hw ▸ d⟩
theorem dris {B : Nat} {w0 w : World} {b r ab : Nat} {n : Int} {m m' : Nat → Option Int} {A : Obj} (c word : Int) (d : Duo B w0 w b r ab n m m' A) (h8 : n ≤ 8) :
    Calls Try.prog 28 #[.pointer (some ⟨r, 0, none⟩), .int .i64 c, .int .u64 word] w fun e w' => e = .returned (.bool (aIs n c word m')) ∧ Duo B w0 w' b r ab n m m' A :=
  (ris r n c word m' w d.ref h8).mono fun _ _ ⟨he, hm, hg⟩ => ⟨he, d.r hm hg⟩

theorem step_set (b r : Nat) (n co wo fo k wd vl fr fm : Int) (m : Nat → Option Int) (B : Nat) (w0 w : World) (hm : Mon w b n m) (hr : Ref w r n m) (hB : B ≤ b) (hB' : B ≤ r) (hbe : Below B w0 w) (hs : B ≤ w.heap.size) (h0 : 1 ≤ n) (h8 : n ≤ 8) (h4 : 0 ≤ wo) (h5 : wo ≤ 18446744073709551615)
    (hz : ∀ j : Nat, n ≤ j → m j = none) (hv : ∀ (j : Nat), 0 ≤ ofWord (m j) ∧ ofWord (m j) ≤ 18446744073709551615) :
    Calls Try.prog 15 #[.pointer (some ⟨b, 0, none⟩), .pointer (some ⟨r, 0, none⟩), .agg #[.int .i64 0, .int .i64 co, .int .u64 wo, .int .i64 fo, .int .i8 k, .int .u64 wd, .int .u64 vl, .int .i64 fr, .int .i64 fm]] w fun e w' => e = .returned (.bool true) ∧ Mon w' b n (nSet n co wo m) ∧ Ref w' r n (nSet n co wo m) ∧ Below B w0 w' := by
  have d0 : Duo B w0 (w.alloc (actb 0 co wo fo k wd vl fr fm)) b r w.heap.size n m m (actb 0 co wo fo k wd vl fr fm) :=
    ⟨hm.alloc _, (Below.heap_alloc _ _ _ hr.lt).trans hr, heap_alloc_new _ _, hB, hB', hbe.alloc hs _, by simp; omega, by have := hm.lt; omega, by have := hr.lt; omega⟩
  have D0 := Lib.hid d0.drew; have HZ := Lib.hid hz; have HV := Lib.hid hv
  clear hm hr hB hB' hbe hs d0 hz hv
  go_enter Try.func15, Try.ntmps15
  go_wp2_with fail
  go_region_held3 (fun w' => w'.cell? ⟨w.heap.size, 1, none⟩ = some (.int .i64 co) ∧ w'.cell? ⟨w.heap.size, 2, none⟩ = some (.int .u64 wo)) (first | go_keep | exact ⟨hd.c.1, hd.c.2.1⟩)
    (first
      | (go_at_call 8; refine (dxset co wo (by assumption) h8 h4 h5).mono ?_; rintro e w' ⟨rfl, hd⟩)
      | (go_at_call 23; refine (drset co wo (by assumption) h8).mono ?_; rintro e w' ⟨rfl, hd⟩))
  all_goals
    have HD := Lib.hid hd
    clear hd
    go_wp2_with fail
    go_ret
    exact ⟨rfl, HD.out.mon, HD.out.ref, HD.out.below⟩

theorem step_clear (b r : Nat) (n co wo fo k wd vl fr fm : Int) (m : Nat → Option Int) (B : Nat) (w0 w : World) (hm : Mon w b n m) (hr : Ref w r n m) (hB : B ≤ b) (hB' : B ≤ r) (hbe : Below B w0 w) (hs : B ≤ w.heap.size) (h0 : 1 ≤ n) (h8 : n ≤ 8) (h4 : 0 ≤ wo) (h5 : wo ≤ 18446744073709551615)
    (hz : ∀ j : Nat, n ≤ j → m j = none) (hv : ∀ (j : Nat), 0 ≤ ofWord (m j) ∧ ofWord (m j) ≤ 18446744073709551615) :
    Calls Try.prog 15 #[.pointer (some ⟨b, 0, none⟩), .pointer (some ⟨r, 0, none⟩), .agg #[.int .i64 1, .int .i64 co, .int .u64 wo, .int .i64 fo, .int .i8 k, .int .u64 wd, .int .u64 vl, .int .i64 fr, .int .i64 fm]] w fun e w' => e = .returned (.bool true) ∧ Mon w' b n (nClear n co m) ∧ Ref w' r n (nClear n co m) ∧ Below B w0 w' := by
  have d0 : Duo B w0 (w.alloc (actb 1 co wo fo k wd vl fr fm)) b r w.heap.size n m m (actb 1 co wo fo k wd vl fr fm) :=
    ⟨hm.alloc _, (Below.heap_alloc _ _ _ hr.lt).trans hr, heap_alloc_new _ _, hB, hB', hbe.alloc hs _, by simp; omega, by have := hm.lt; omega, by have := hr.lt; omega⟩
  have D0 := Lib.hid d0.drew; have HZ := Lib.hid hz; have HV := Lib.hid hv
  clear hm hr hB hB' hbe hs d0 hz hv
  go_enter Try.func15, Try.ntmps15
  go_wp2_with fail
  go_region_held3 (fun w' => w'.cell? ⟨w.heap.size, 1, none⟩ = some (.int .i64 co)) (first | go_keep | exact hd.c.1)
    (first
      | (go_at_call 13; refine (dxclear co (by assumption) h8).mono ?_; rintro e w' ⟨rfl, hd⟩)
      | (go_at_call 24; refine (drclear co (by assumption) h8).mono ?_; rintro e w' ⟨rfl, hd⟩))
  all_goals
    have HD := Lib.hid hd
    clear hd
    go_wp2_with fail
    go_ret
    exact ⟨rfl, HD.out.mon, HD.out.ref, HD.out.below⟩

theorem step_wrote (b r : Nat) (n co wo fo k wd vl fr fm : Int) (m : Nat → Option Int) (B : Nat) (w0 w : World) (hm : Mon w b n m) (hr : Ref w r n m) (hB : B ≤ b) (hB' : B ≤ r) (hbe : Below B w0 w) (hs : B ≤ w.heap.size) (h0 : 1 ≤ n) (h8 : n ≤ 8) (h4 : 0 ≤ wo) (h5 : wo ≤ 18446744073709551615)
    (hz : ∀ j : Nat, n ≤ j → m j = none) (hv : ∀ (j : Nat), 0 ≤ ofWord (m j) ∧ ofWord (m j) ≤ 18446744073709551615) :
    Calls Try.prog 15 #[.pointer (some ⟨b, 0, none⟩), .pointer (some ⟨r, 0, none⟩), .agg #[.int .i64 2, .int .i64 co, .int .u64 wo, .int .i64 fo, .int .i8 k, .int .u64 wd, .int .u64 vl, .int .i64 fr, .int .i64 fm]] w fun e w' => e = .returned (.bool true) ∧ Mon w' b n (nWrote n co wo m) ∧ Ref w' r n (nWrote n co wo m) ∧ Below B w0 w' := by
  have d0 : Duo B w0 (w.alloc (actb 2 co wo fo k wd vl fr fm)) b r w.heap.size n m m (actb 2 co wo fo k wd vl fr fm) :=
    ⟨hm.alloc _, (Below.heap_alloc _ _ _ hr.lt).trans hr, heap_alloc_new _ _, hB, hB', hbe.alloc hs _, by simp; omega, by have := hm.lt; omega, by have := hr.lt; omega⟩
  have D0 := Lib.hid d0.drew; have HZ := Lib.hid hz; have HV := Lib.hid hv
  clear hm hr hB hB' hbe hs d0 hz hv
  go_enter Try.func15, Try.ntmps15
  go_wp2_with fail
  go_region_held3 (fun w' => w'.cell? ⟨w.heap.size, 1, none⟩ = some (.int .i64 co) ∧ w'.cell? ⟨w.heap.size, 2, none⟩ = some (.int .u64 wo)) (first | go_keep | exact ⟨hd.c.1, hd.c.2.1⟩)
    (first
      | (go_at_call 9; refine (dxwrote co wo (by assumption) h8).mono ?_; rintro e w' ⟨rfl, hd⟩)
      | (go_at_call 25; refine (drwrote co wo (by assumption) h0 h8 HZ.out).mono ?_; rintro e w' ⟨rfl, hd⟩))
  all_goals
    have HD := Lib.hid hd
    clear hd
    go_wp2_with fail
    go_ret
    exact ⟨rfl, HD.out.mon, HD.out.ref, HD.out.below⟩

theorem step_block (b r : Nat) (n co wo fo k wd vl fr fm : Int) (m : Nat → Option Int) (B : Nat) (w0 w : World) (hm : Mon w b n m) (hr : Ref w r n m) (hB : B ≤ b) (hB' : B ≤ r) (hbe : Below B w0 w) (hs : B ≤ w.heap.size) (h0 : 1 ≤ n) (h8 : n ≤ 8) (h4 : 0 ≤ wo) (h5 : wo ≤ 18446744073709551615)
    (hz : ∀ j : Nat, n ≤ j → m j = none) (hv : ∀ (j : Nat), 0 ≤ ofWord (m j) ∧ ofWord (m j) ≤ 18446744073709551615) :
    Calls Try.prog 15 #[.pointer (some ⟨b, 0, none⟩), .pointer (some ⟨r, 0, none⟩), .agg #[.int .i64 3, .int .i64 co, .int .u64 wo, .int .i64 fo, .int .i8 k, .int .u64 wd, .int .u64 vl, .int .i64 fr, .int .i64 fm]] w fun e w' => e = .returned (.bool true) ∧ Mon w' b n (nBlock n co fo m) ∧ Ref w' r n (nBlock n co fo m) ∧ Below B w0 w' := by
  have d0 : Duo B w0 (w.alloc (actb 3 co wo fo k wd vl fr fm)) b r w.heap.size n m m (actb 3 co wo fo k wd vl fr fm) :=
    ⟨hm.alloc _, (Below.heap_alloc _ _ _ hr.lt).trans hr, heap_alloc_new _ _, hB, hB', hbe.alloc hs _, by simp; omega, by have := hm.lt; omega, by have := hr.lt; omega⟩
  have D0 := Lib.hid d0.drew; have HZ := Lib.hid hz; have HV := Lib.hid hv
  clear hm hr hB hB' hbe hs d0 hz hv
  go_enter Try.func15, Try.ntmps15
  go_wp2_with fail
  go_region_held3 (fun w' => w'.cell? ⟨w.heap.size, 1, none⟩ = some (.int .i64 co) ∧ w'.cell? ⟨w.heap.size, 3, none⟩ = some (.int .i64 fo)) (first | go_keep | exact ⟨hd.c.1, hd.c.2.2.1⟩)
    (first
      | (go_at_call 11; refine (dxblock co fo (by assumption) h8).mono ?_; rintro e w' ⟨rfl, hd⟩)
      | (go_at_call 26; refine (drblock co fo (by assumption) h0 h8 HZ.out HV.out).mono ?_; rintro e w' ⟨rfl, hd⟩))
  all_goals
    have HD := Lib.hid hd
    clear hd
    go_wp2_with fail
    go_ret
    exact ⟨rfl, HD.out.mon, HD.out.ref, HD.out.below⟩

theorem step_reach (b r : Nat) (n co wo fo k wd vl fr fm : Int) (m : Nat → Option Int) (B : Nat) (w0 w : World) (hm : Mon w b n m) (hr : Ref w r n m) (hB : B ≤ b) (hB' : B ≤ r) (hbe : Below B w0 w) (hs : B ≤ w.heap.size) (h0 : 1 ≤ n) (h8 : n ≤ 8) (h4 : 0 ≤ wo) (h5 : wo ≤ 18446744073709551615)
    (hz : ∀ j : Nat, n ≤ j → m j = none) (hv : ∀ (j : Nat), 0 ≤ ofWord (m j) ∧ ofWord (m j) ≤ 18446744073709551615) :
    Calls Try.prog 15 #[.pointer (some ⟨b, 0, none⟩), .pointer (some ⟨r, 0, none⟩), .agg #[.int .i64 4, .int .i64 co, .int .u64 wo, .int .i64 fo, .int .i8 k, .int .u64 wd, .int .u64 vl, .int .i64 fr, .int .i64 fm]] w fun e w' => e = .returned (.bool true) ∧ Mon w' b n (nReach n co k wd fm m) ∧ Ref w' r n (nReach n co k wd fm m) ∧ Below B w0 w' := by
  have d0 : Duo B w0 (w.alloc (actb 4 co wo fo k wd vl fr fm)) b r w.heap.size n m m (actb 4 co wo fo k wd vl fr fm) :=
    ⟨hm.alloc _, (Below.heap_alloc _ _ _ hr.lt).trans hr, heap_alloc_new _ _, hB, hB', hbe.alloc hs _, by simp; omega, by have := hm.lt; omega, by have := hr.lt; omega⟩
  have D0 := Lib.hid d0.drew; have HZ := Lib.hid hz; have HV := Lib.hid hv
  clear hm hr hB hB' hbe hs d0 hz hv
  go_enter Try.func15, Try.ntmps15
  go_wp2_with fail
  go_region_held3 (fun w' => w'.cell? ⟨w.heap.size, 1, none⟩ = some (.int .i64 co) ∧ w'.cell? ⟨w.heap.size, 4, none⟩ = some (.int .i8 k) ∧ w'.cell? ⟨w.heap.size, 5, none⟩ = some (.int .u64 wd) ∧ w'.cell? ⟨w.heap.size, 6, none⟩ = some (.int .u64 vl) ∧ w'.cell? ⟨w.heap.size, 7, none⟩ = some (.int .i64 fr) ∧ w'.cell? ⟨w.heap.size, 8, none⟩ = some (.int .i64 fm)) (first | go_keep | exact ⟨hd.c.1, hd.c.2.2.2⟩)
    (first
      | (go_at_call 18; refine (dxreach co k wd vl fr fm (by assumption) h8).mono ?_; rintro e w' ⟨rfl, hd⟩)
      | (go_at_call 27; refine (drreach co k wd vl fr fm (by assumption) h0 h8 HZ.out HV.out).mono ?_; rintro e w' ⟨rfl, hd⟩))
  all_goals
    have HD := Lib.hid hd
    clear hd
    go_wp2_with fail
    go_ret
    exact ⟨rfl, HD.out.mon, HD.out.ref, HD.out.below⟩

theorem step_is (b r : Nat) (n dd co wo fo k wd vl fr fm : Int) (m : Nat → Option Int) (B : Nat) (w0 w : World) (hm : Mon w b n m) (hr : Ref w r n m) (hB : B ≤ b) (hB' : B ≤ r) (hbe : Below B w0 w) (hs : B ≤ w.heap.size) (h0 : 1 ≤ n) (h8 : n ≤ 8) (h4 : 0 ≤ wo) (h5 : wo ≤ 18446744073709551615)
    (hz : ∀ j : Nat, n ≤ j → m j = none) (hv : ∀ (j : Nat), 0 ≤ ofWord (m j) ∧ ofWord (m j) ≤ 18446744073709551615) (t0 : (dd == 0) = false) (t1 : (dd == 1) = false) (t2 : (dd == 2) = false) (t3 : (dd == 3) = false) (t4 : (dd == 4) = false) :
    Calls Try.prog 15 #[.pointer (some ⟨b, 0, none⟩), .pointer (some ⟨r, 0, none⟩), .agg #[.int .i64 dd, .int .i64 co, .int .u64 wo, .int .i64 fo, .int .i8 k, .int .u64 wd, .int .u64 vl, .int .i64 fr, .int .i64 fm]] w fun e w' => e = .returned (.bool true) ∧ Mon w' b n (m) ∧ Ref w' r n (m) ∧ Below B w0 w' := by
  have d0 : Duo B w0 (w.alloc (actb dd co wo fo k wd vl fr fm)) b r w.heap.size n m m (actb dd co wo fo k wd vl fr fm) :=
    ⟨hm.alloc _, (Below.heap_alloc _ _ _ hr.lt).trans hr, heap_alloc_new _ _, hB, hB', hbe.alloc hs _, by simp; omega, by have := hm.lt; omega, by have := hr.lt; omega⟩
  have D0 := Lib.hid d0.drew; have HZ := Lib.hid hz; have HV := Lib.hid hv
  clear hm hr hB hB' hbe hs d0 hz hv
  go_enter Try.func15, Try.ntmps15
  go_wp2_with fail
  go_region_held3 (fun w' => w'.cell? ⟨w.heap.size, 1, none⟩ = some (.int .i64 co) ∧ w'.cell? ⟨w.heap.size, 2, none⟩ = some (.int .u64 wo)) (first | go_keep | exact ⟨hd.c.1, hd.c.2.1⟩)
    (first
      | (go_at_call 10; refine (dxis co wo (by assumption) h8).mono ?_; rintro e w' ⟨rfl, hd⟩)
      | (go_at_call 28; refine (dris co wo (by assumption) h8).mono ?_; rintro e w' ⟨rfl, hd⟩))
  all_goals
    have HD := Lib.hid hd
    clear hd
    go_wp2_with fail
    go_ret
    exact ⟨rfl, HD.out.mon, HD.out.ref, HD.out.below⟩


/-- What an act makes of the monitors. -/
def nAct (n dd co wo fo k wd fm : Int) (m : Nat → Option Int) : Nat → Option Int :=
  if dd = 0 then nSet n co wo m else if dd = 1 then nClear n co m else if dd = 2 then nWrote n co wo m else if dd = 3 then nBlock n co fo m else if dd = 4 then nReach n co k wd fm m else m

theorem lose_none {m : Nat → Option Int} {n c : Int} {hit : Int → Bool} (h : ∀ j : Nat, n ≤ j → m j = none) : ∀ j : Nat, n ≤ j → lose m c hit j = none := by
  intro j hj
  simp only [lose, h j hj]
  simp
theorem nWrote_none {m : Nat → Option Int} {n c x : Int} (h : ∀ j : Nat, n ≤ j → m j = none) : ∀ j : Nat, n ≤ j → nWrote n c x m j = none := by
  intro j hj
  unfold nWrote
  split
  · exact lose_none h j hj
  · exact h j hj
theorem nBlock_none {m : Nat → Option Int} {n c x : Int} (h : ∀ j : Nat, n ≤ j → m j = none) : ∀ j : Nat, n ≤ j → nBlock n c x m j = none := by
  intro j hj
  unfold nBlock
  split
  · exact lose_none h j hj
  · exact h j hj
theorem nAct_none {m : Nat → Option Int} {n dd co wo fo k wd fm : Int} (h : ∀ j : Nat, n ≤ j → m j = none) : ∀ j : Nat, n ≤ j → nAct n dd co wo fo k wd fm m j = none := by
  intro j hj
  unfold nAct
  split
  · unfold nSet
    split
    · rename_i ho
      obtain ⟨h1, h2⟩ := okc_true ho
      simp only [updm]
      rw [if_neg (by omega)]
      exact h j hj
    · exact h j hj
  · split
    · unfold nClear
      split
      · simp only [updm]
        split
        · rfl
        · exact h j hj
      · exact h j hj
    · split
      · exact nWrote_none h j hj
      · split
        · exact nBlock_none h j hj
        · split
          · unfold nReach
            split
            · exact nWrote_none h j hj
            · split
              · exact nBlock_none h j hj
              · split
                · exact nBlock_none h j hj
                · exact h j hj
          · exact h j hj

theorem mon_words {w : World} {b : Nat} {n : Int} {m : Nat → Option Int} (hm : Mon w b n m) (h8 : n ≤ 8) (hz : ∀ j : Nat, n ≤ j → m j = none) (j : Nat) : 0 ≤ ofWord (m j) ∧ ofWord (m j) ≤ 18446744073709551615 := by
  by_cases hj : j < 8
  · obtain ⟨P, _, hP⟩ := hm
    rcases hP j hj with ⟨_, h⟩ | ⟨c, v, _, h, h1, h2, _⟩
    · rw [h]; simp [ofWord]
    · rw [h]; exact ⟨h1, h2⟩
  · rw [hz j (by omega)]; simp [ofWord]

theorem step_any (b r : Nat) (n dd co wo fo k wd vl fr fm : Int) (m : Nat → Option Int) (B : Nat) (w0 w : World) (hm : Mon w b n m) (hr : Ref w r n m) (hB : B ≤ b) (hB' : B ≤ r) (hbe : Below B w0 w) (hs : B ≤ w.heap.size) (h0 : 1 ≤ n) (h8 : n ≤ 8) (h4 : 0 ≤ wo) (h5 : wo ≤ 18446744073709551615)
    (hz : ∀ j : Nat, n ≤ j → m j = none) :
    Calls Try.prog 15 #[.pointer (some ⟨b, 0, none⟩), .pointer (some ⟨r, 0, none⟩), .agg #[.int .i64 dd, .int .i64 co, .int .u64 wo, .int .i64 fo, .int .i8 k, .int .u64 wd, .int .u64 vl, .int .i64 fr, .int .i64 fm]] w fun e w' => e = .returned (.bool true) ∧ Mon w' b n (nAct n dd co wo fo k wd fm m) ∧ Ref w' r n (nAct n dd co wo fo k wd fm m) ∧ Below B w0 w' := by
  have hv := mon_words hm h8 hz
  unfold nAct
  by_cases d0 : dd = 0
  · subst d0; exact step_set b r n co wo fo k wd vl fr fm m B w0 w hm hr hB hB' hbe hs h0 h8 h4 h5 hz hv
  rw [if_neg d0]
  by_cases d1 : dd = 1
  · subst d1; exact step_clear b r n co wo fo k wd vl fr fm m B w0 w hm hr hB hB' hbe hs h0 h8 h4 h5 hz hv
  rw [if_neg d1]
  by_cases d2 : dd = 2
  · subst d2; exact step_wrote b r n co wo fo k wd vl fr fm m B w0 w hm hr hB hB' hbe hs h0 h8 h4 h5 hz hv
  rw [if_neg d2]
  by_cases d3 : dd = 3
  · subst d3; exact step_block b r n co wo fo k wd vl fr fm m B w0 w hm hr hB hB' hbe hs h0 h8 h4 h5 hz hv
  rw [if_neg d3]
  by_cases d4 : dd = 4
  · subst d4; exact step_reach b r n co wo fo k wd vl fr fm m B w0 w hm hr hB hB' hbe hs h0 h8 h4 h5 hz hv
  rw [if_neg d4]
  exact step_is b r n dd co wo fo k wd vl fr fm m B w0 w hm hr hB hB' hbe hs h0 h8 h4 h5 hz hv (by simpa using d0) (by simpa using d1) (by simpa using d2) (by simpa using d3) (by simpa using d4)
end Go.Proofs.Ytnogeejfhojcnaa
