/- Contracts of the document's answer for layer 10. -/
import Derived.Test.YtnogeejfhojcnaaA4
import Derived.Deep.QuietTactic
import Derived.BigQuiet
namespace Go.Proofs.Ytnogeejfhojcnaa
open Go.ChangeShapes Go.WideShapes Go.ChangeAt Go.RowKit

def okc (n c : Int) : Bool := decide (1 ≤ c) && decide (c ≤ n)
theorem okc_true {n c : Int} (h : okc n c = true) : 1 ≤ c ∧ c ≤ n := by simpa [okc] using h
theorem okc_false {n c : Int} (h : okc n c = false) : c < 1 ∨ n < c := by
  simp [okc] at h
  by_cases h1 : 1 ≤ c
  · exact .inr (h h1)
  · exact .inl (by omega)

def refb (n : Int) (m : Nat → Option Int) : Obj :=
  .cells #[.int .i64 n, .bool false, .bool (ofHas (m 0)), .bool (ofHas (m 1)), .bool (ofHas (m 2)), .bool (ofHas (m 3)), .bool (ofHas (m 4)), .bool (ofHas (m 5)), .bool (ofHas (m 6)), .bool (ofHas (m 7)),
    .int .u64 0, .int .u64 (ofWord (m 0)), .int .u64 (ofWord (m 1)), .int .u64 (ofWord (m 2)), .int .u64 (ofWord (m 3)), .int .u64 (ofWord (m 4)), .int .u64 (ofWord (m 5)), .int .u64 (ofWord (m 6)), .int .u64 (ofWord (m 7))] 60 (0, 0)
def Ref (w : World) (b : Nat) (n : Int) (m : Nat → Option Int) : Prop := w.heap[b]? = some (refb n m)

theorem Ref.cell0 {w : World} {b : Nat} {n : Int} {m : Nat → Option Int} (h : Ref w b n m) : w.cell? ⟨b, 0, none⟩ = some (.int .i64 n) := by
  unfold Ref at h; simp [World.cell?, h, refb]
theorem eight (j : Nat) (h0 : 1 ≤ j) (h : j ≤ 8) : j = 1 ∨ j = 2 ∨ j = 3 ∨ j = 4 ∨ j = 5 ∨ j = 6 ∨ j = 7 ∨ j = 8 := by omega
theorem Ref.has {w : World} {b : Nat} {n : Int} {m : Nat → Option Int} (h : Ref w b n m) (j : Nat) (h0 : 1 ≤ j) (h8 : j ≤ 8) : w.cell? ⟨b, 1 + j, none⟩ = some (.bool (ofHas (m (j - 1)))) := by
  unfold Ref at h
  rcases eight j h0 h8 with rfl | rfl | rfl | rfl | rfl | rfl | rfl | rfl <;> simp [World.cell?, h, refb]
theorem Ref.word {w : World} {b : Nat} {n : Int} {m : Nat → Option Int} (h : Ref w b n m) (j : Nat) (h0 : 1 ≤ j) (h8 : j ≤ 8) : w.cell? ⟨b, 10 + j, none⟩ = some (.int .u64 (ofWord (m (j - 1)))) := by
  unfold Ref at h
  rcases eight j h0 h8 with rfl | rfl | rfl | rfl | rfl | rfl | rfl | rfl <;> simp [World.cell?, h, refb]
theorem Ref.free {w : World} {b : Nat} {n : Int} {m : Nat → Option Int} (h : Ref w b n m) (o : Nat) : w.frozen? ⟨b, o, none⟩ = false := by
  unfold Ref at h; simp [World.frozen?, h, refb]
theorem block_set {w : World} {b : Nat} {cs : Array Value} {t : TypeId} {fr : Nat × Nat} (h : w.heap[b]? = some (.cells cs t fr)) (i : Nat) (v : Value) :
    (w.setCell ⟨b, i, none⟩ v).heap[b]? = some (.cells (cs.setIfInBounds i v) t fr) := by
  have hlt := lt_of_block h
  have h' : w.heap[b] = .cells cs t fr := by simpa [Array.getElem?_eq_getElem hlt] using h
  show (w.heap.modify b _)[b]? = _
  rw [Array.getElem?_eq_getElem (by simpa using hlt), Array.getElem_modify_self, h']
  simp
theorem Ref.set {w : World} {b : Nat} {n : Int} {m : Nat → Option Int} (h : Ref w b n m) (j : Nat) (h0 : 1 ≤ j) (h8 : j ≤ 8) (q : Option Int) :
    Ref ((w.setCell ⟨b, 1 + j, none⟩ (.bool (ofHas q))).setCell ⟨b, 10 + j, none⟩ (.int .u64 (ofWord q))) b n (updm m (j - 1) q) := by
  unfold Ref at h ⊢
  rw [block_set (block_set h _ _) _ _]
  rcases eight j h0 h8 with rfl | rfl | rfl | rfl | rfl | rfl | rfl | rfl <;> simp [refb, updm]
theorem Ref.lt {w : World} {b : Nat} {n : Int} {m : Nat → Option Int} (h : Ref w b n m) : b < w.heap.size := lt_of_block h
theorem Ref.congr {w : World} {b : Nat} {n : Int} {m m' : Nat → Option Int} (h : Ref w b n m) (he : ∀ k, k < 8 → m k = m' k) : Ref w b n m' := by
  unfold Ref at h ⊢
  rw [h]
  simp only [refb, he 0 (by omega), he 1 (by omega), he 2 (by omega), he 3 (by omega), he 4 (by omega), he 5 (by omega), he 6 (by omega), he 7 (by omega)]

theorem rcore (b : Nat) (n c : Int) (m : Nat → Option Int) (w : World) (hr : Ref w b n m) :
    Calls Try.prog 29 #[.pointer (some ⟨b, 0, none⟩), .int .i64 c] w fun e w' => e = .returned (.bool (okc n c)) ∧ w = w' := by
  have hc := hr.cell0
  clear hr
  unfold okc
  by_cases h1 : 1 ≤ c
  · have hd : decide (1 ≤ c) = true := by simpa using h1
    go_enter Try.func29, Try.ntmps29
    go_wp2
    go_ret
    exact ⟨by rw [hd]; rfl, rfl⟩
  · have hd : decide (1 ≤ c) = false := by simpa using h1
    go_enter Try.func29, Try.ntmps29
    go_wp2
    go_ret
    exact ⟨rfl, rfl⟩

/-- The answer OK or ErrArg. -/
def code (b : Bool) : Int := if b then 0 else 2
def nSet (n c word : Int) (m : Nat → Option Int) : Nat → Option Int := if okc n c = true then updm m (c.toNat - 1) (some word) else m
def nClear (n c : Int) (m : Nat → Option Int) : Nat → Option Int := if okc n c = true then updm m (c.toNat - 1) none else m

theorem rset (b : Nat) (n c word : Int) (m : Nat → Option Int) (w : World) (hr : Ref w b n m) (h8 : n ≤ 8) :
    Calls Try.prog 23 #[.pointer (some ⟨b, 0, none⟩), .int .i64 c, .int .u64 word] w fun e w' => e = .returned (.int .i64 (code (okc n c))) ∧ Ref w' b n (nSet n c word m) ∧ w.grownBy w' (some b) := by
  have HR := Lib.hid hr
  clear hr
  cases ho : okc n c
  · have HO := Lib.hid ho
    clear ho
    go_enter Try.func23, Try.ntmps23
    go_wp2_with fail
    refine (rcore b n c m _ HR.out).mono ?_
    rw [HO.out]
    rintro e w' ⟨rfl, rfl⟩
    go_wp2_with fail
    go_ret
    exact ⟨rfl, by simpa [nSet, HO.out] using HR.out, World.grownBy.refl _ _⟩
  · obtain ⟨h1, h2⟩ := okc_true ho
    have HO := Lib.hid ho
    have hh := HR.out.has c.toNat (by omega) (by omega)
    have hw := HR.out.word c.toNat (by omega) (by omega)
    have hf1 := HR.out.free (1 + c.toNat)
    have hf2 := HR.out.free (10 + c.toNat)
    clear ho
    go_enter Try.func23, Try.ntmps23
    go_wp2_with fail
    refine (rcore b n c m _ HR.out).mono ?_
    rw [HO.out]
    rintro e w' ⟨rfl, rfl⟩
    go_wp2_with fail
    go_ret
    have e1 : nSet n c word m = updm m (c.toNat - 1) (some word) := by simp [nSet, HO.out]
    rw [e1]
    have g1 := only_setCell (World.grownBy.refl w (some b)) (p := ⟨b, 1 + c.toNat, none⟩) rfl (.bool true)
    have g2 := only_setCell g1 (p := ⟨b, 10 + c.toNat, none⟩) rfl (.int .u64 word)
    have r2 := HR.out.set c.toNat (by omega) (by omega) (some word)
    exact ⟨rfl, r2, g2⟩

theorem rclear (b : Nat) (n c : Int) (m : Nat → Option Int) (w : World) (hr : Ref w b n m) (h8 : n ≤ 8) :
    Calls Try.prog 24 #[.pointer (some ⟨b, 0, none⟩), .int .i64 c] w fun e w' => e = .returned (.int .i64 (code (okc n c))) ∧ Ref w' b n (nClear n c m) ∧ w.grownBy w' (some b) := by
  have HR := Lib.hid hr
  clear hr
  cases ho : okc n c
  · have HO := Lib.hid ho
    clear ho
    go_enter Try.func24, Try.ntmps24
    go_wp2_with fail
    refine (rcore b n c m _ HR.out).mono ?_
    rw [HO.out]
    rintro e w' ⟨rfl, rfl⟩
    go_wp2_with fail
    go_ret
    exact ⟨rfl, by simpa [nClear, HO.out] using HR.out, World.grownBy.refl _ _⟩
  · obtain ⟨h1, h2⟩ := okc_true ho
    have HO := Lib.hid ho
    have hh := HR.out.has c.toNat (by omega) (by omega)
    have hw := HR.out.word c.toNat (by omega) (by omega)
    have hf1 := HR.out.free (1 + c.toNat)
    have hf2 := HR.out.free (10 + c.toNat)
    clear ho
    go_enter Try.func24, Try.ntmps24
    go_wp2_with fail
    refine (rcore b n c m _ HR.out).mono ?_
    rw [HO.out]
    rintro e w' ⟨rfl, rfl⟩
    go_wp2_with fail
    go_ret
    have e1 : nClear n c m = updm m (c.toNat - 1) Option.none := by simp [nClear, HO.out]
    rw [e1]
    have g1 := only_setCell (World.grownBy.refl w (some b)) (p := ⟨b, 1 + c.toNat, none⟩) rfl (.bool false)
    have g2 := only_setCell g1 (p := ⟨b, 10 + c.toNat, none⟩) rfl (.int .u64 0)
    have r2 := HR.out.set c.toNat (by omega) (by omega) Option.none
    exact ⟨rfl, r2, g2⟩

def aWord (n c : Int) (m : Nat → Option Int) : Int := if okc n c = true then ofWord (m (c.toNat - 1)) else 0
def aHas (n c : Int) (m : Nat → Option Int) : Bool := okc n c && ofHas (m (c.toNat - 1))

theorem rof (b : Nat) (n c : Int) (m : Nat → Option Int) (w : World) (hr : Ref w b n m) (h8 : n ≤ 8) :
    Calls Try.prog 17 #[.pointer (some ⟨b, 0, none⟩), .int .i64 c] w fun e w' => e = .returned (.tuple #[.int .u64 (aWord n c m), .bool (aHas n c m)]) ∧ Ref w' b n m ∧ w.grownBy w' (some b) := by
  have HR := Lib.hid hr
  clear hr
  cases ho : okc n c
  · have HO := Lib.hid ho
    clear ho
    go_enter Try.func17, Try.ntmps17
    go_wp2_with fail
    refine (rcore b n c m _ HR.out).mono ?_
    rw [HO.out]
    rintro e w' ⟨rfl, rfl⟩
    go_wp2_with fail
    go_ret2
    exact ⟨by simp [aWord, aHas, HO.out], HR.out, World.grownBy.refl _ _⟩
  · obtain ⟨h1, h2⟩ := okc_true ho
    have HO := Lib.hid ho
    have hh := HR.out.has c.toNat (by omega) (by omega)
    have hw := HR.out.word c.toNat (by omega) (by omega)
    clear ho
    go_enter Try.func17, Try.ntmps17
    go_wp2_with fail
    refine (rcore b n c m _ HR.out).mono ?_
    rw [HO.out]
    rintro e w' ⟨rfl, rfl⟩
    go_wp2_with fail
    go_quiet (fail)
    go_wp2_with fail
    go_ret2
    exact ⟨by simp [aWord, aHas, HO.out], HR.out, ⟨rfl, rfl, rfl, Nat.le_refl _, fun _ _ _ => rfl⟩⟩
end Go.Proofs.Ytnogeejfhojcnaa
