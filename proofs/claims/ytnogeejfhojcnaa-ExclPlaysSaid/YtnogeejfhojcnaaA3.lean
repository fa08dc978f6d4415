/- Contracts of package excl over the monitors' state. -/
import Derived.Test.YtnogeejfhojcnaaA2
namespace Go.Proofs.Ytnogeejfhojcnaa
open Go.ChangeShapes Go.WideShapes Go.ChangeAt Go.RowKit

theorem wrote1 (own word : Int) (c : Nat) (w : World) (hc : w.cell? ⟨c, 0, none⟩ = some (.int .u64 word)) :
    Calls Try.prog 21 #[.int .u64 own, .pointer (some ⟨c, 0, none⟩)] w fun e w' => e = .returned (.bool (own == word)) ∧ w = w' := by
  go_enter Try.func21, Try.ntmps21
  go_wp2
  go_ret
  exact ⟨rfl, rfl⟩

theorem block1 (own frame : Int) (c : Nat) (w : World) (hc : w.cell? ⟨c, 0, none⟩ = some (.int .i64 frame)) (h0 : 0 ≤ own) (h1 : own ≤ 18446744073709551615)
    (h2 : 0 ≤ frame) (h3 : frame ≤ 1048576) :
    Calls Try.prog 22 #[.int .u64 own, .pointer (some ⟨c, 0, none⟩)] w fun e w' => e = .returned (.bool (own / 512 == frame)) ∧ w = w' := by
  go_enter Try.func22, Try.ntmps22
  go_wp2
  go_ret
  exact ⟨rfl, rfl⟩
theorem cf21 (x y : Value) (wr : World) : (callFunc 21 #[x, y]).run Try.prog wr = .ok (.enter 21 #[x, y]) wr := by kernel_rfl
theorem cf22 (x y : Value) (wr : World) : (callFunc 22 #[x, y]).run Try.prog wr = .ok (.enter 22 #[x, y]) wr := by kernel_rfl

/-- Block b holds n and eight monitors; m says which word each one is. -/
def Mon (w : World) (b : Nat) (n : Int) (m : Nat → Option Int) : Prop :=
  ∃ P : Nat → Option Nat, w.heap[b]? = some (exb n P) ∧ ∀ k, k < 8 → (P k = none ∧ m k = none) ∨ ∃ c v, P k = some c ∧ m k = some v ∧ 0 ≤ v ∧ v ≤ 18446744073709551615 ∧ w.heap[c]? = some (.cells #[.int .u64 v] 22 (0, 0))

def updm (m : Nat → Option Int) (k : Nat) (q : Option Int) : Nat → Option Int := fun j => if j = k then q else m j

theorem exb_ne {w : World} {b c : Nat} {n : Int} {P : Nat → Option Nat} {v : Value} {t : TypeId} (h : w.heap[b]? = some (exb n P)) (h' : w.heap[c]? = some (.cells #[v] t (0, 0))) : c ≠ b := by
  rintro rfl; rw [h] at h'; simp [exb] at h'

theorem Mon.cell0 {w : World} {b : Nat} {n : Int} {m : Nat → Option Int} (h : Mon w b n m) : w.cell? ⟨b, 0, none⟩ = some (.int .i64 n) := by
  obtain ⟨P, hb, _⟩ := h
  exact exb_cell0 hb
theorem Mon.lt {w : World} {b : Nat} {n : Int} {m : Nat → Option Int} (h : Mon w b n m) : b < w.heap.size := by
  obtain ⟨P, hb, _⟩ := h
  exact lt_of_block hb

theorem Mon.congr {w : World} {b : Nat} {n : Int} {m m' : Nat → Option Int} (h : Mon w b n m) (he : ∀ k, k < 8 → m k = m' k) : Mon w b n m' := by
  obtain ⟨P, hb, hP⟩ := h
  exact ⟨P, hb, fun k hk => by rw [← he k hk]; exact hP k hk⟩

/-- Another block turned, of another type. -/
theorem Mon.kept {w w' : World} {b : Nat} {n : Int} {m : Nat → Option Int} (h : Mon w b n m) (hk : ∀ (i : Nat) (cs : Array Value) (t : TypeId), w.heap[i]? = some (Obj.cells cs t (0, 0)) → (t = 55 ∨ t = 22) → w'.heap[i]? = w.heap[i]?) : Mon w' b n m := by
  obtain ⟨P, hb, hP⟩ := h
  refine ⟨P, (hk b _ _ hb (.inl rfl)).trans hb, fun k hk8 => ?_⟩
  rcases hP k hk8 with h | ⟨c, v, h1, h2, h3, h4, h5⟩
  · exact .inl h
  · exact .inr ⟨c, v, h1, h2, h3, h4, (hk c _ _ h5 (.inr rfl)).trans h5⟩

theorem Mon.alloc {w : World} {b : Nat} {n : Int} {m : Nat → Option Int} (h : Mon w b n m) (o : Obj) : Mon (w.alloc o) b n m :=
  h.kept fun _ _ _ hi _ => Below.heap_alloc _ _ _ (lt_of_block hi)

/-- A monitor set to a cell that holds a word. -/
theorem Mon.store {w : World} {b c : Nat} {n : Int} {m : Nat → Option Int} (h : Mon w b n m) (k : Nat) (hk : k < 8) (v : Int) (h0 : 0 ≤ v) (h1 : v ≤ 18446744073709551615)
    (hc : w.heap[c]? = some (.cells #[.int .u64 v] 22 (0, 0))) : Mon (w.setCell ⟨b, 1 + k, none⟩ (.pointer (some ⟨c, 0, none⟩))) b n (updm m k (some v)) := by
  obtain ⟨P, hb, hP⟩ := h
  refine ⟨upd P k (some c), exb_set hb k hk (some c), fun j hj => ?_⟩
  by_cases hjk : j = k
  · subst hjk
    exact .inr ⟨c, v, by simp [upd], by simp [updm], h0, h1, (Below.heap_setCell _ _ _ _ (exb_ne hb hc)).trans hc⟩
  · rcases hP j hj with h | ⟨c', v', a1, a2, a3, a4, a5⟩
    · exact .inl (by simpa [upd, updm, hjk] using h)
    · exact .inr ⟨c', v', by simpa [upd, hjk] using a1, by simpa [updm, hjk] using a2, a3, a4, (Below.heap_setCell _ _ _ _ (exb_ne hb a5)).trans a5⟩

theorem Mon.none {w : World} {b : Nat} {n : Int} {m : Nat → Option Int} (h : Mon w b n m) (k : Nat) (hk : k < 8) :
    Mon (w.setCell ⟨b, 1 + k, none⟩ (.pointer none)) b n (updm m k none) := by
  obtain ⟨P, hb, hP⟩ := h
  refine ⟨upd P k Option.none, exb_set hb k hk Option.none, fun j hj => ?_⟩
  by_cases hjk : j = k
  · subst hjk
    exact .inl (by simp [upd, updm])
  · rcases hP j hj with h | ⟨c', v', a1, a2, a3, a4, a5⟩
    · exact .inl (by simpa [upd, updm, hjk] using h)
    · exact .inr ⟨c', v', by simpa [upd, hjk] using a1, by simpa [updm, hjk] using a2, a3, a4, (Below.heap_setCell _ _ _ _ (exb_ne hb a5)).trans a5⟩

theorem only_alloc {a w : World} {row : Option Nat} (h : a.grownBy w row) (o : Obj) : a.grownBy (w.alloc o) row :=
  ⟨h.os, h.tape, h.output, Nat.le_trans h.size (by simp), fun i hi hne => (Below.heap_alloc w o i (Nat.lt_of_lt_of_le hi h.size)).trans (h.block i hi hne)⟩

theorem set_ok (b : Nat) (n c word : Int) (m : Nat → Option Int) (w : World) (hm : Mon w b n m) (h1 : 1 ≤ c) (h2 : c ≤ n) (h3 : n ≤ 8) (h4 : 0 ≤ word) (h5 : word ≤ 18446744073709551615) :
    Calls Try.prog 8 #[.pointer (some ⟨b, 0, none⟩), .int .i64 c, .int .u64 word] w fun e w' => e = .returned (.int .i64 0) ∧ Mon w' b n (updm m (c.toNat - 1) (some word)) ∧ w.grownBy w' (some b) := by
  obtain ⟨P, hb, hP⟩ := id hm
  have hc := exb_cell hb (c.toNat - 1) (by omega)
  have hf := exb_free hb (1 + (c.toNat - 1))
  have hlt := lt_of_block hb
  have HM := Lib.hid hm
  clear hb hP hm
  go_enter Try.func8, Try.ntmps8
  go_wp2_with fail
  refine (core_ok b n c _ HM.out.cell0 h1 h2).mono ?_
  rintro e w' ⟨rfl, rfl⟩
  go_wp2_with fail
  go_ret
  rw [← World.setCell_alloc_past _ _ _ _ hlt]
  exact ⟨rfl, (HM.out.alloc _).store (c.toNat - 1) (by omega) _ h4 h5 (heap_alloc_new _ _), only_setCell (only_alloc (World.grownBy.refl _ _) _) rfl _⟩

theorem clear_ok (b : Nat) (n c : Int) (m : Nat → Option Int) (w : World) (hm : Mon w b n m) (h1 : 1 ≤ c) (h2 : c ≤ n) (h3 : n ≤ 8) :
    Calls Try.prog 13 #[.pointer (some ⟨b, 0, none⟩), .int .i64 c] w fun e w' => e = .returned (.int .i64 0) ∧ Mon w' b n (updm m (c.toNat - 1) Option.none) ∧ w.grownBy w' (some b) := by
  obtain ⟨P, hb, hP⟩ := id hm
  have hc := exb_cell hb (c.toNat - 1) (by omega)
  have hf := exb_free hb (1 + (c.toNat - 1))
  have hlt := lt_of_block hb
  have HM := Lib.hid hm
  clear hb hP hm
  go_enter Try.func13, Try.ntmps13
  go_wp2_with fail
  refine (core_ok b n c _ HM.out.cell0 h1 h2).mono ?_
  rintro e w' ⟨rfl, rfl⟩
  go_wp2_with fail
  go_ret
  exact ⟨rfl, HM.out.none _ (by omega), only_setCell (World.grownBy.refl _ _) rfl _⟩

/-- What Of answers. -/
def ofWord (q : Option Int) : Int := q.getD 0
def ofHas (q : Option Int) : Bool := q.isSome

theorem of_ok (b : Nat) (n c : Int) (m : Nat → Option Int) (w : World) (hm : Mon w b n m) (h1 : 1 ≤ c) (h2 : c ≤ n) (h3 : n ≤ 8) :
    Calls Try.prog 16 #[.pointer (some ⟨b, 0, none⟩), .int .i64 c] w fun e w' => e = .returned (.tuple #[.int .u64 (ofWord (m (c.toNat - 1))), .bool (ofHas (m (c.toNat - 1)))]) ∧ w = w' := by
  obtain ⟨P, hb, hP⟩ := id hm
  have hc := exb_cell hb (c.toNat - 1) (by omega)
  have HM := Lib.hid hm
  rcases hP (c.toNat - 1) (by omega) with ⟨hp, hk⟩ | ⟨d, v, hp, hk, hv0, hv1, hd⟩
  · rw [hp] at hc
    rw [hk]
    simp only [pv] at hc
    clear hb hP hm hk hp
    go_enter Try.func16, Try.ntmps16
    go_wp2_with fail
    refine (core_ok b n c _ HM.out.cell0 h1 h2).mono ?_
    rintro e w' ⟨rfl, rfl⟩
    go_wp2_with fail
    go_ret2
    exact ⟨rfl, rfl⟩
  · rw [hp] at hc
    rw [hk]
    simp only [pv] at hc
    have hdc := cell_of_one hd
    clear hb hP hm hk hp hd
    go_enter Try.func16, Try.ntmps16
    go_wp2_with fail
    refine (core_ok b n c _ HM.out.cell0 h1 h2).mono ?_
    rintro e w' ⟨rfl, rfl⟩
    go_wp2_with fail
    go_ret2
    exact ⟨rfl, rfl⟩

def isB (q : Option Int) (word : Int) : Bool := q == some word
theorem isB_of (q : Option Int) (word : Int) : isB q word = (ofHas q && (ofWord q == word)) := by
  cases q <;> simp [isB, ofHas, ofWord]

theorem is_ok (b : Nat) (n c word : Int) (m : Nat → Option Int) (w : World) (hm : Mon w b n m) (h1 : 1 ≤ c) (h2 : c ≤ n) (h3 : n ≤ 8) :
    Calls Try.prog 10 #[.pointer (some ⟨b, 0, none⟩), .int .i64 c, .int .u64 word] w fun e w' => e = .returned (.bool (isB (m (c.toNat - 1)) word)) ∧ w = w' := by
  have HM := Lib.hid hm
  clear hm
  rw [isB_of]
  go_enter Try.func10, Try.ntmps10
  go_wp2_with fail
  refine (of_ok b n c m _ HM.out h1 h2 h3).mono ?_
  rintro e w' ⟨rfl, rfl⟩
  cases hh : ofHas (m (c.toNat - 1))
  · have HH := Lib.hid hh
    clear hh
    go_wp2_with fail
    go_ret
    exact ⟨by rw [HH.out]; rfl, rfl⟩
  · have HH := Lib.hid hh
    clear hh
    go_wp2_with fail
    go_ret
    exact ⟨by rw [HH.out]; rfl, rfl⟩

/-- What a write of others leaves: hit words go. -/
def lose (m : Nat → Option Int) (c : Int) (hit : Int → Bool) : Nat → Option Int := fun j => if (j : Int) ≠ c - 1 ∧ (m j).any hit = true then none else m j

theorem clearall_ok (b : Nat) (n c : Int) (m : Nat → Option Int) (hit : Int → Bool) (fid : Nat) (cap : Value) (w : World) (hm : Mon w b n m)
    (hhit : ∀ v wr, 0 ≤ v → v ≤ 18446744073709551615 → w.grownBy wr (some b) → Calls Try.prog fid #[.int .u64 v, cap] wr fun e w' => e = .returned (.bool (hit v)) ∧ wr = w')
    (hcf : ∀ (x y : Value) (wr : World), (callFunc fid #[x, y]).run Try.prog wr = .ok (.enter fid #[x, y]) wr)
    (h1 : 1 ≤ c) (h2 : c ≤ 8) :
    Calls Try.prog 20 #[.pointer (some ⟨b, 0, none⟩), .int .i64 c, .func (.func fid) #[] #[cap]] w fun e w' => e = .returned (.tuple #[]) ∧ Mon w' b n (lose m c hit) ∧ w.grownBy w' (some b) := by
  obtain ⟨P, hb, hP⟩ := id hm
  refine (clear_any b n c P (fun k => (m k).getD 0) hit fid cap w hb ?_ ?_ hcf h1 h2).mono ?_
  · intro k d hk hd
    rcases hP k hk with ⟨hp, _⟩ | ⟨d', v, hp, hm, _, _, hc⟩
    · rw [hp] at hd; simp at hd
    · rw [hp] at hd
      simp only [Option.some.injEq] at hd
      subst hd
      simp only [hm, Option.getD_some]
      exact hc
  · intro k d wr hk hd hg
    rcases hP k hk with ⟨hp, _⟩ | ⟨d', v, hp, hm, hv0, hv1, hc⟩
    · rw [hp] at hd; simp at hd
    · simp only [hm, Option.getD_some]
      exact hhit v wr hv0 hv1 hg
  · rintro e w' ⟨rfl, hb', hg⟩
    refine ⟨rfl, ⟨_, hb', fun k hk => ?_⟩, hg⟩
    rcases hP k hk with ⟨hp, hmk⟩ | ⟨d', v, hp, hmk, hv0, hv1, hc⟩
    · exact .inl ⟨by simp [hp], by simp [lose, hmk]⟩
    · by_cases hh : (k : Int) ≠ c - 1 ∧ hit v = true
      · exact .inl ⟨by simp only [hmk, Option.getD_some]; rw [if_pos hh], by simp only [lose, hmk, Option.any_some]; rw [if_pos hh]⟩
      · refine .inr ⟨d', v, by simp only [hmk, Option.getD_some]; rw [if_neg hh, hp], by simp only [lose, hmk, Option.any_some]; rw [if_neg hh], hv0, hv1, (hg.block d' (lt_of_block hc) ?_).trans hc⟩
        have := exb_ne hb hc
        simpa using this

theorem grown_trans {a b c : World} {row : Option Nat} (h : a.grownBy b row) (k : b.grownBy c row) : a.grownBy c row :=
  ⟨k.os.trans h.os, k.tape.trans h.tape, k.output.trans h.output, Nat.le_trans h.size k.size, fun i hi hne => (k.block i (Nat.lt_of_lt_of_le hi h.size) hne).trans (h.block i hi hne)⟩

theorem wrote_ok (b : Nat) (n c word : Int) (m : Nat → Option Int) (w : World) (hm : Mon w b n m) (h1 : 1 ≤ c) (h2 : c ≤ n) (h3 : n ≤ 8) :
    Calls Try.prog 9 #[.pointer (some ⟨b, 0, none⟩), .int .i64 c, .int .u64 word] w fun e w' => e = .returned (.int .i64 0) ∧ Mon w' b n (lose m c (fun v => v == word)) ∧ w.grownBy w' (some b) := by
  have HM := Lib.hid hm
  clear hm
  go_enter Try.func9, Try.ntmps9
  go_wp2_with fail
  refine (core_ok b n c _ (HM.out.alloc _).cell0 h1 h2).mono ?_
  rintro e w' ⟨rfl, rfl⟩
  go_wp2_with fail
  refine (clearall_ok b n c m (fun v => v == word) 21 _ _ (HM.out.alloc _) ?_ cf21 h1 (by omega)).mono ?_
  · intro v wr _ _ hg
    refine wrote1 v word _ wr ?_
    refine (hg.cell (a := ⟨w.heap.size, 0, none⟩) (cell_of_one (heap_alloc_new _ _)) ?_)
    have := HM.out.lt
    simp; omega
  · rintro e w' ⟨rfl, hM, hg⟩
    have HM' := Lib.hid hM
    have HG := Lib.hid hg
    clear hM hg
    go_wp2_with fail
    go_ret
    exact ⟨rfl, HM'.out, grown_trans (only_alloc (World.grownBy.refl _ _) _) HG.out⟩

theorem block_ok (b : Nat) (n c frame : Int) (m : Nat → Option Int) (w : World) (hm : Mon w b n m) (h1 : 1 ≤ c) (h2 : c ≤ n) (h3 : n ≤ 8) (h4 : 0 ≤ frame) (h5 : frame ≤ 1048576) :
    Calls Try.prog 11 #[.pointer (some ⟨b, 0, none⟩), .int .i64 c, .int .i64 frame] w fun e w' => e = .returned (.int .i64 0) ∧ Mon w' b n (lose m c (fun v => v / 512 == frame)) ∧ w.grownBy w' (some b) := by
  have HM := Lib.hid hm
  clear hm
  have hd1 : decide (frame < 0) = false := by simp; omega
  have hd2 : decide (1048576 < frame) = false := by simp; omega
  go_enter Try.func11, Try.ntmps11
  go_wp2_with fail
  refine (core_ok b n c _ (HM.out.alloc _).cell0 h1 h2).mono ?_
  rintro e w' ⟨rfl, rfl⟩
  go_wp2_with fail
  refine (clearall_ok b n c m (fun v => v / 512 == frame) 22 _ _ (HM.out.alloc _) ?_ cf22 h1 (by omega)).mono ?_
  · intro v wr hv0 hv1 hg
    refine block1 v frame _ wr ?_ hv0 hv1 h4 h5
    refine (hg.cell (a := ⟨w.heap.size, 0, none⟩) (cell_of_one (heap_alloc_new _ _)) ?_)
    have := HM.out.lt
    simp; omega
  · rintro e w' ⟨rfl, hM, hg⟩
    have HM' := Lib.hid hM
    have HG := Lib.hid hg
    clear hM hg
    go_wp2_with fail
    go_ret
    exact ⟨rfl, HM'.out, grown_trans (only_alloc (World.grownBy.refl _ _) _) HG.out⟩

theorem block_bad (b : Nat) (n c frame : Int) (m : Nat → Option Int) (w : World) (hm : Mon w b n m) (h1 : 1 ≤ c) (h2 : c ≤ n) (h4 : frame < 0 ∨ 1048576 < frame) :
    Calls Try.prog 11 #[.pointer (some ⟨b, 0, none⟩), .int .i64 c, .int .i64 frame] w fun e w' => e = .returned (.int .i64 2) ∧ Mon w' b n m ∧ w.grownBy w' (some b) := by
  have HM := Lib.hid hm
  clear hm
  by_cases hneg : frame < 0
  · have hd1 : decide (frame < 0) = true := by simp; omega
    clear h4
    go_enter Try.func11, Try.ntmps11
    go_wp2_with fail
    refine (core_ok b n c _ (HM.out.alloc _).cell0 h1 h2).mono ?_
    rintro e w' ⟨rfl, rfl⟩
    go_wp2_with fail
    go_ret
    exact ⟨rfl, HM.out.alloc _, only_alloc (World.grownBy.refl _ _) _⟩
  · have hd1 : decide (frame < 0) = false := by simp; omega
    have hd2 : decide (1048576 < frame) = true := by simp; omega
    clear h4
    go_enter Try.func11, Try.ntmps11
    go_wp2_with fail
    refine (core_ok b n c _ (HM.out.alloc _).cell0 h1 h2).mono ?_
    rintro e w' ⟨rfl, rfl⟩
    go_wp2_with fail
    go_ret
    exact ⟨rfl, HM.out.alloc _, only_alloc (World.grownBy.refl _ _) _⟩
end Go.Proofs.Ytnogeejfhojcnaa
