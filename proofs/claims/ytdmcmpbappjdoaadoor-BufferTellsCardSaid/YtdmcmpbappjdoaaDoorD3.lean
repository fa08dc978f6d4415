/- Layer 9: which words an entry names. -/
import Derived.Test.YtdmcmpbappjdoaaDoorD2
import Derived.Laws.AppendOwn
import Derived.Laws.OwnMore
namespace Go.Proofs.YtdmcmpbappjdoaaDoor
open Go.ChangeShapes Go.WideShapes Go.ChangeAt Go.RowKit
set_option linter.unusedVariables false

theorem frame_ok (f : Int) (w : World) (h0 : 0 ≤ f) (h1 : f ≤ 1048576) : Calls Tryd.prog 32 #[.int .i64 f] w fun ε w' => ε = .returned (.agg #[.int .u64 (512 * f), .int .u64 (512 * f + 511)]) ∧ Below w.heap.size w w' := by
  have a1 : IntKind.u64.wrap f = f := by rw [IntKind.wrap_u64]; omega
  have a2 : IntKind.u64.wrap (512 * f) = 512 * f := by rw [IntKind.wrap_u64]; omega
  have a3 : IntKind.u64.wrap (512 * f + 512) = 512 * f + 512 := by rw [IntKind.wrap_u64]; omega
  have a4 : IntKind.u64.wrap (512 * f + 512 - 1) = 512 * f + 511 := by rw [IntKind.wrap_u64]; omega
  go_enter Tryd.func32, Tryd.ntmps32
  go_wp2_with fail
  refine bodyPost_ret (v := .agg #[.int .u64 (512 * f), .int .u64 (512 * f + 511)]) (by simp [results, Tryd.results32, go_sem]) rfl ⟨rfl, ?_⟩
  exact (Below.refl _ _).alloc (Nat.le_refl _) _

/-- The words that an entry names. -/
def fst (f : Int) : Int × Int := (512 * f, 512 * f + 511)
def names (e : Ent) : List (Int × Int) := if e.k = 0 then [(e.wd, e.wd)] else if e.k = 2 then [fst e.fm] else if e.k = 3 then [fst e.fm, fst e.fr] else []
def stc (l : List (Int × Int)) : List Value := l.flatMap fun x => [.int .u64 x.1, .int .u64 x.2]
def sn (l : List (Int × Int)) (i : Nat) : Int × Int := l[i]?.getD (0, 0)
theorem stc_len (l : List (Int × Int)) : (stc l).length = l.length * 2 := by
  induction l with
  | nil => rfl
  | cons a l ih => simp only [stc, List.flatMap_cons, List.length_append, List.length_cons, List.length_nil] at ih ⊢; omega
theorem stc_get : ∀ (l : List (Int × Int)) (i : Nat), i < l.length → (stc l)[i * 2]? = some (.int .u64 (sn l i).1) ∧ (stc l)[i * 2 + 1]? = some (.int .u64 (sn l i).2)
  | [], i, h => by simp at h
  | a :: l, 0, h => ⟨rfl, rfl⟩
  | a :: l, i + 1, h => by
    have ih := stc_get l i (by simpa using h)
    have e : stc (a :: l) = [.int .u64 a.1, .int .u64 a.2] ++ stc l := rfl
    have h1 : sn (a :: l) (i + 1) = sn l i := rfl
    rw [e, h1, List.getElem?_append_right (by simp; omega), List.getElem?_append_right (by simp; omega)]
    simp only [List.length_cons, List.length_nil]
    rw [show (i + 1) * 2 - (0 + 1 + 1) = i * 2 by omega, show (i + 1) * 2 + 1 - (0 + 1 + 1) = i * 2 + 1 by omega]
    exact ih
def Sts (w : World) (ao : Option Addr) (l : List (Int × Int)) : Prop := ∀ i, i < l.length → ∃ g, ao = some ⟨g, 0, none⟩ ∧ w.cell? ⟨g, i * 2, none⟩ = some (.int .u64 (sn l i).1) ∧ w.cell? ⟨g, i * 2 + 1, none⟩ = some (.int .u64 (sn l i).2)
theorem Sts.below {w w' : World} {ao : Option Addr} {l : List (Int × Int)} (h : Sts w ao l) (hb : Below w.heap.size w w') : Sts w' ao l := fun i hi => by
  obtain ⟨g, e, c1, c2⟩ := h i hi
  have hlt := lt_of_cell c1
  exact ⟨g, e, (hb.cell (p := ⟨g, i * 2, none⟩) hlt).trans c1, (hb.cell (p := ⟨g, i * 2 + 1, none⟩) hlt).trans c2⟩
theorem own_sts {w : World} {base : Nat} {v : Value} {l : List (Int × Int)} (h : w.ownsRow base 53 2 v l.length (stc l)) : ∃ ao cap, v = .slice ao l.length cap ∧ Sts w ao l := by
  rcases h.2 with ⟨rfl, hn⟩ | ⟨g, cap, cur, rfl, hb, hh, hle, hcap, hsz, htake⟩
  · exact ⟨none, 0, by rw [hn], fun i hi => by omega⟩
  · refine ⟨_, cap, rfl, fun i hi => ⟨g, rfl, ?_, ?_⟩⟩
    · have := (stc_get l i hi).1
      rw [← htake, List.getElem?_take] at this
      split at this
      · simpa [World.cell?, hh] using this
      · cases this
    · have := (stc_get l i hi).2
      rw [← htake, List.getElem?_take] at this
      split at this
      · simpa [World.cell?, hh] using this
      · cases this
def NamedPost (w : World) (e : Ent) (ε : Ending) (w' : World) : Prop := ∃ ao cap, ε = .returned (.slice ao (names e).length cap) ∧ Sts w' ao (names e) ∧ Below w.heap.size w w'
theorem Tryd.info53 : (Tryd.prog.info? 53).map (fun i => (i.zero, i.size, i.bytes)) = some (some (.agg #[.int .u64 0, .int .u64 0]), 2, 16) := by kernel_rfl

theorem may_K {e : Ent} (h : mayB e = true) : ∃ K : Nat, e.k = K ∧ K < 4 := by
  simp only [mayB, Bool.and_eq_true, decide_eq_true_eq] at h
  exact ⟨e.k.toNat, by omega, by omega⟩
theorem may_fm {e : Ent} (h : mayB e = true) : 0 ≤ e.fm ∧ e.fm ≤ 1048576 ∧ 0 ≤ e.fr ∧ e.fr ≤ 1048576 := by
  simp only [mayB, Bool.and_eq_true, fmB, Bool.or_eq_true, decide_eq_true_eq, beq_iff_eq] at h
  omega

theorem news2 {W : World} {x y : Value} {t : TypeId} {b : Nat} (hb : b = W.heap.size) : ∀ j u, [x, y][j]? = some u → (W.alloc (.cells #[x, y] t)).cell? ((⟨b, 0, none⟩ : Addr).add j) = some u := by
  subst hb
  intro j u h
  match j, h with
  | 0, h => simp at h; subst h; simp [go_sem, Addr.add]
  | 1, h => simp at h; subst h; simp [go_sem, Addr.add]
  | j + 2, h => simp at h
theorem oldc {B : Nat} {W w1 : World} (hb : Below B W w1) : ∀ b o, b < B → w1.cell? ⟨b, o, none⟩ = W.cell? ⟨b, o, none⟩ := fun b o h => hb.cell (p := ⟨b, o, none⟩) h
theorem grown_none {B : Nat} {a w w' : World} (h : Below B a w) (hg : w.grownBy w' none) (hw : B ≤ w.heap.size) : Below B a w' := h.grown hg hw (fun k hk => by cases hk)

theorem own_below {w w' : World} {base : Nat} {e : TypeId} {size : Nat} {v : Value} {n : Nat} {xs : List Value} (h : w.ownsRow base e size v n xs) (hb : Below w.heap.size w w') : w'.ownsRow base e size v n xs :=
  h.kept (row := none) ⟨hb.os, hb.tape, hb.output, hb.size, fun i hi _ => hb.block i hi⟩ (by cases h1 : v.ownBlock <;> simp)
theorem named_ok (e : Ent) (w : World) (hk : TK w) (ho : e.ok) (hm : mayB e = true) : Calls Tryd.prog 28 #[e.agg] w (NamedPost w e) := by
  obtain ⟨K, hK, hK4⟩ := may_K hm
  obtain ⟨m0, m1, r0, r1⟩ := may_fm hm
  obtain ⟨i0, hi, hz0, hz1, hz2⟩ := info_parts Tryd.info53
  have HI := Lib.hid hi; have HZ0 := Lib.hid hz0; have HZ1 := Lib.hid hz1; have HZ2 := Lib.hid hz2
  obtain ⟨t0, t1, t2⟩ := hk K hK4
  have hlt := hk.lt
  have HK := Lib.hid hk
  obtain ⟨k, wd, v, fr, fm⟩ := e
  simp only at hK m0 m1 r0 r1
  subst hK
  clear hm ho hi hz0 hz1 hz2 hk
  unfold Ent.agg
  rcases (show K = 0 ∨ K = 1 ∨ K = 2 ∨ K = 3 by omega) with rfl | rfl | rfl | rfl
  · have t0' : w.cell? ⟨0, 0, none⟩ = some (.bool true) := t0
    have t1' : w.cell? ⟨0, 1, none⟩ = some (.bool false) := t1
    have t2' : w.cell? ⟨0, 2, none⟩ = some (.bool false) := t2
    go_enter Tryd.func28, Tryd.ntmps28
    go_wp2_with (at_builtin; refine wpList_append_own _ rfl _ _ 50 rfl (w.heap.size + 2) 53 i0 _ 2 16 Tryd.underlying50 HI.out HZ0.out HZ1.out HZ2.out rfl (by decide) _ 0 [] rfl ⟨rfl, .inl ⟨rfl, rfl⟩⟩ ⟨w.heap.size + 2, 0, none⟩ 1 1 [.int .u64 wd, .int .u64 wd] rfl rfl ?c1 ?c2 ?c3 ?c4 ?c5 ?_)
    case c1 => exact news2 (by simp)
    case c2 => simp [Value.oneCell']
    case c3 => simp [maxLen]
    case c4 => omega
    case c5 => simp
    intro v' w1 hown hgrow _
    obtain ⟨ao, cap, hv, hs⟩ := own_sts (l := [(wd, wd)]) hown
    subst hv
    have HS := Lib.hid hs
    have B1 := Lib.hid (grown_none (((((Below.refl w.heap.size w).alloc (Nat.le_refl _) _).alloc (by simp) _).alloc (by simp; omega) _)) hgrow (by simp; omega))
    have hc := oldc (B := w.heap.size + 2) (W := w.alloc (.cells #[.int .i8 0, .int .u64 wd, .int .u64 v, .int .i64 fr, .int .i64 fm] 31) |>.alloc (.cells #[.bool true, .bool false, .bool false] 56)) (grown_none ((Below.refl _ _).alloc (by simp) _) hgrow (by simp))
    clear hown hgrow hs
    go_wp2_with fail
    go_ret
    exact ⟨ao, cap, rfl, HS.out, B1.out⟩
  · have t0' : w.cell? ⟨0, 3, none⟩ = some (.bool false) := t0
    have t1' : w.cell? ⟨0, 4, none⟩ = some (.bool false) := t1
    have t2' : w.cell? ⟨0, 5, none⟩ = some (.bool false) := t2
    clear t0 t1 t2
    go_enter Tryd.func28, Tryd.ntmps28
    go_wp2_with fail
    go_ret
    exact ⟨none, 0, rfl, fun i hi => by simp [names] at hi, ((Below.refl _ _).alloc (Nat.le_refl _) _).alloc (by simp) _⟩
  · have t0' : w.cell? ⟨0, 6, none⟩ = some (.bool false) := t0
    have t1' : w.cell? ⟨0, 7, none⟩ = some (.bool true) := t1
    have t2' : w.cell? ⟨0, 8, none⟩ = some (.bool false) := t2
    clear t0 t1 t2
    go_enter Tryd.func28, Tryd.ntmps28
    go_wp2_with fail
    refine (frame_ok fm _ m0 m1).mono ?_
    rintro ε w1 ⟨rfl, hb1⟩
    have B1 := Lib.hid ((((Below.refl w.heap.size w).alloc (Nat.le_refl _) _).alloc (by simp) _).trans (hb1.mono (by simp; omega)))
    have HB1 := Lib.hid hb1
    have hz1 : w.heap.size + 2 ≤ w1.heap.size := by have := hb1.size; simp at this; omega
    have hc := oldc (B := w.heap.size + 2) (W := w.alloc (.cells #[.int .i8 2, .int .u64 wd, .int .u64 v, .int .i64 fr, .int .i64 fm] 31) |>.alloc (.cells #[.bool false, .bool true, .bool false] 56)) (hb1.mono (by simp))
    clear hb1
    go_wp2_with (at_builtin; refine wpList_append_own _ rfl _ _ 50 rfl (w.heap.size + 2) 53 i0 _ 2 16 Tryd.underlying50 HI.out HZ0.out HZ1.out HZ2.out rfl (by decide) _ 0 [] rfl ⟨rfl, .inl ⟨rfl, rfl⟩⟩ ⟨w1.heap.size, 0, none⟩ 1 1 [.int .u64 (512 * fm), .int .u64 (512 * fm + 511)] rfl rfl ?c1 ?c2 ?c3 ?c4 ?c5 ?_)
    case c1 => exact news2 (by simp)
    case c2 => simp [Value.oneCell']
    case c3 => simp [maxLen]
    case c4 => omega
    case c5 => simp; omega
    intro v' w2 hown hgrow _
    obtain ⟨ao, cap, hv, hs⟩ := own_sts (l := [fst fm]) hown
    subst hv
    have HS := Lib.hid hs
    have B2 := Lib.hid (grown_none (B1.out.alloc (by omega) _) hgrow (by simp; omega))
    have hc2 := oldc (B := w.heap.size + 2) (W := w.alloc (.cells #[.int .i8 2, .int .u64 wd, .int .u64 v, .int .i64 fr, .int .i64 fm] 31) |>.alloc (.cells #[.bool false, .bool true, .bool false] 56)) (grown_none ((HB1.out.mono (by simp)).alloc (by omega) _) hgrow (by simp; omega))
    clear hown hgrow hs hc
    go_wp2_with fail
    go_ret
    exact ⟨ao, cap, rfl, HS.out, B2.out⟩
  · have t0' : w.cell? ⟨0, 9, none⟩ = some (.bool false) := t0
    have t1' : w.cell? ⟨0, 10, none⟩ = some (.bool true) := t1
    have t2' : w.cell? ⟨0, 11, none⟩ = some (.bool true) := t2
    clear t0 t1 t2
    go_enter Tryd.func28, Tryd.ntmps28
    go_wp2_with fail
    refine (frame_ok fm _ m0 m1).mono ?_
    rintro ε w1 ⟨rfl, hb1⟩
    have B1 := Lib.hid ((((Below.refl w.heap.size w).alloc (Nat.le_refl _) _).alloc (by simp) _).trans (hb1.mono (by simp; omega)))
    have HB1 := Lib.hid hb1
    have hz1 : w.heap.size + 2 ≤ w1.heap.size := by have := hb1.size; simp at this; omega
    have hc := oldc (B := w.heap.size + 2) (W := w.alloc (.cells #[.int .i8 3, .int .u64 wd, .int .u64 v, .int .i64 fr, .int .i64 fm] 31) |>.alloc (.cells #[.bool false, .bool true, .bool true] 56)) (hb1.mono (by simp))
    clear hb1
    go_wp2_with (at_builtin; refine wpList_append_own _ rfl _ _ 50 rfl (w.heap.size + 2) 53 i0 _ 2 16 Tryd.underlying50 HI.out HZ0.out HZ1.out HZ2.out rfl (by decide) _ 0 [] rfl ⟨rfl, .inl ⟨rfl, rfl⟩⟩ ⟨w1.heap.size, 0, none⟩ 1 1 [.int .u64 (512 * fm), .int .u64 (512 * fm + 511)] rfl rfl ?c1 ?c2 ?c3 ?c4 ?c5 ?_)
    case c1 => exact news2 (by simp)
    case c2 => simp [Value.oneCell']
    case c3 => simp [maxLen]
    case c4 => omega
    case c5 => simp; omega
    intro v' w2 hown hgrow _
    have HOW := Lib.hid hown
    have B2 := Lib.hid (grown_none (B1.out.alloc (by omega) _) hgrow (by simp; omega))
    have HB2 := Lib.hid (grown_none ((show Below (w.heap.size + 2) _ w1 from HB1.out.mono (by simp)).alloc (by omega) _) hgrow (by simp; omega))
    have hz2 : w1.heap.size ≤ w2.heap.size := by have := hgrow.size; simp at this; omega
    have hc2 := oldc (B := w.heap.size + 2) (W := w.alloc (.cells #[.int .i8 3, .int .u64 wd, .int .u64 v, .int .i64 fr, .int .i64 fm] 31) |>.alloc (.cells #[.bool false, .bool true, .bool true] 56)) HB2.out
    clear hown hgrow hc
    go_wp2_with fail
    refine (frame_ok fr _ r0 r1).mono ?_
    rintro ε w3 ⟨rfl, hb3⟩
    have HOW3 := Lib.hid (own_below HOW.out hb3)
    have B3 := Lib.hid (B2.out.trans (hb3.mono (by omega)))
    have HB3 := Lib.hid (HB2.out.trans (hb3.mono (by omega)))
    have hz3 : w2.heap.size ≤ w3.heap.size := hb3.size
    have hc3 := oldc (B := w.heap.size + 2) (W := w.alloc (.cells #[.int .i8 3, .int .u64 wd, .int .u64 v, .int .i64 fr, .int .i64 fm] 31) |>.alloc (.cells #[.bool false, .bool true, .bool true] 56)) HB3.out
    clear hb3 hc2
    go_wp2_with (at_builtin; refine wpList_append_own _ rfl _ _ 50 rfl (w.heap.size + 2) 53 i0 _ 2 16 Tryd.underlying50 HI.out HZ0.out HZ1.out HZ2.out rfl (by decide) v' 1 [.int .u64 (512 * fm), .int .u64 (512 * fm + 511)] rfl (HOW3.out.alloc _) ⟨w3.heap.size, 0, none⟩ 1 1 [.int .u64 (512 * fr), .int .u64 (512 * fr + 511)] rfl rfl ?c1 ?c2 ?c3 ?c4 ?c5 ?_)
    case c1 => exact news2 (by simp)
    case c2 => simp [Value.oneCell']
    case c3 => simp [maxLen]
    case c4 => omega
    case c5 => simp; omega
    intro v2 w4 hown hgrow _
    obtain ⟨ao, cap, hv, hs⟩ := own_sts (l := [fst fm, fst fr]) hown
    subst hv
    have HS := Lib.hid hs
    have hlo : ∀ q, v'.ownBlock = some q → w.heap.size + 2 ≤ q := fun q hq => (HOW.out.lt q hq).1
    have B4 := Lib.hid ((B3.out.alloc (by omega) _).grown hgrow (by simp; omega) (fun q hq => by have := hlo q hq; omega))
    have hc4 := oldc (B := w.heap.size + 2) (W := w.alloc (.cells #[.int .i8 3, .int .u64 wd, .int .u64 v, .int .i64 fr, .int .i64 fm] 31) |>.alloc (.cells #[.bool false, .bool true, .bool true] 56)) ((HB3.out.alloc (by omega) _).grown hgrow (by simp; omega) (fun q hq => hlo q hq))
    clear hown hgrow hs hc3 hlo
    go_wp2_with fail
    go_ret
    exact ⟨ao, cap, rfl, HS.out, B4.out⟩
end Go.Proofs.YtdmcmpbappjdoaaDoor
