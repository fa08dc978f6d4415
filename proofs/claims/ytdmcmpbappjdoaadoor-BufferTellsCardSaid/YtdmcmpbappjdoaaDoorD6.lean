/- Layer 9: gather. -/
import Derived.Test.YtdmcmpbappjdoaaDoorD5
import Derived.Laws.MakeOwn
import Derived.LoopN
import Derived.Laws.AppendOwnNone
namespace Go.Proofs.YtdmcmpbappjdoaaDoor
open Go.ChangeShapes Go.WideShapes Go.ChangeAt Go.RowKit
set_option linter.unusedVariables false

def cellsE (l : List Ent) : List Value := l.flatMap fun e => [.int .i8 e.k, .int .u64 e.wd, .int .u64 e.v, .int .i64 e.fr, .int .i64 e.fm]
theorem cellsE_len (l : List Ent) : (cellsE l).length = l.length * 5 := by
  induction l with
  | nil => rfl
  | cons a l ih => simp only [cellsE, List.flatMap_cons, List.length_append, List.length_cons, List.length_nil] at ih ⊢; omega
theorem cellsE_app (l m : List Ent) : cellsE (l ++ m) = cellsE l ++ cellsE m := by simp [cellsE]
theorem cellsE_get : ∀ (l : List Ent) (i : Nat), i < l.length → (cellsE l)[i * 5]? = some (.int .i8 (nt l i).k) ∧ (cellsE l)[i * 5 + 1]? = some (.int .u64 (nt l i).wd) ∧ (cellsE l)[i * 5 + 2]? = some (.int .u64 (nt l i).v) ∧ (cellsE l)[i * 5 + 3]? = some (.int .i64 (nt l i).fr) ∧ (cellsE l)[i * 5 + 4]? = some (.int .i64 (nt l i).fm)
  | [], i, h => by simp at h
  | a :: l, 0, h => ⟨rfl, rfl, rfl, rfl, rfl⟩
  | a :: l, i + 1, h => by
    have ih := cellsE_get l i (by simpa using h)
    have e : cellsE (a :: l) = [.int .i8 a.k, .int .u64 a.wd, .int .u64 a.v, .int .i64 a.fr, .int .i64 a.fm] ++ cellsE l := rfl
    have h1 : nt (a :: l) (i + 1) = nt l i := rfl
    have hh : ∀ r, (cellsE (a :: l))[(i + 1) * 5 + r]? = (cellsE l)[i * 5 + r]? := fun r => by
      rw [e, List.getElem?_append_right (by simp; omega)]
      simp only [List.length_cons, List.length_nil]
      rw [show (i + 1) * 5 + r - (0 + 1 + 1 + 1 + 1 + 1) = i * 5 + r by omega]
    rw [h1]
    exact ⟨(hh 0).trans ih.1, (hh 1).trans ih.2.1, (hh 2).trans ih.2.2.1, (hh 3).trans ih.2.2.2.1, (hh 4).trans ih.2.2.2.2⟩
theorem cellsE_one (l : List Ent) : ∀ u ∈ cellsE l, u.oneCell' = true := by
  intro u hu
  simp only [cellsE, List.mem_flatMap] at hu
  obtain ⟨e, _, he⟩ := hu
  simp at he
  rcases he with rfl | rfl | rfl | rfl | rfl <;> rfl
theorem add_at (b off j : Nat) : (⟨b, off, none⟩ : Addr).add j = ⟨b, off + j, none⟩ := by unfold Addr.add; split <;> simp_all
theorem Ents.news {w : World} {ad : Addr} {l : List Ent} (h : Ents w (some ad) l) : ∀ j u, (cellsE l)[j]? = some u → w.cell? (ad.add j) = some u := by
  intro j u hu
  have hj : j < l.length * 5 := by
    rw [← cellsE_len]
    exact (List.getElem?_eq_some_iff.1 hu).1
  have hi : j / 5 < l.length := by omega
  obtain ⟨b, off, e, x⟩ := h (j / 5) hi
  cases e
  rw [add_at]
  obtain ⟨g0, g1, g2, g3, g4⟩ := cellsE_get l (j / 5) hi
  rcases (show j = j / 5 * 5 ∨ j = j / 5 * 5 + 1 ∨ j = j / 5 * 5 + 2 ∨ j = j / 5 * 5 + 3 ∨ j = j / 5 * 5 + 4 by omega) with hr | hr | hr | hr | hr
  · rw [hr] at hu; rw [g0] at hu; rw [← hu, ← x.c0]; congr 2; omega
  · rw [hr] at hu; rw [g1] at hu; rw [← hu, ← x.c1]; congr 2; omega
  · rw [hr] at hu; rw [g2] at hu; rw [← hu, ← x.c2]; congr 2; omega
  · rw [hr] at hu; rw [g3] at hu; rw [← hu, ← x.c3]; congr 2; omega
  · rw [hr] at hu; rw [g4] at hu; rw [← hu, ← x.c4]; congr 2; omega
theorem own_ents {w : World} {base n : Nat} {v : Value} {l : List Ent} (hn : n = l.length) (h : w.ownsRow base 31 5 v n (cellsE l)) : ∃ ao cap, v = .slice ao n cap ∧ n ≤ cap ∧ cap ≤ 9223372036854775807 ∧ (ao = none → cap = 0) ∧ (∀ ad, ao = some ad → base ≤ ad.block) ∧ Ents w ao l := by
  subst hn
  rcases h.2 with ⟨rfl, hn⟩ | ⟨g, cap, cur, rfl, hb, hh, hle, hcap, hsz, htake⟩
  · exact ⟨none, 0, by rw [hn], by omega, by omega, fun _ => rfl, (fun _ h => by cases h), fun i hi => by omega⟩
  · unfold maxLen at hcap
    refine ⟨_, cap, rfl, hle, hcap, (fun h => by cases h), (fun ad h => by cases h; exact hb), fun i hi => ⟨g, 0, rfl, ?_⟩⟩
    have key : ∀ j u, (cellsE l)[j]? = some u → w.cell? ⟨g, j, none⟩ = some u := by
      intro j u hu
      rw [← htake, List.getElem?_take] at hu
      split at hu
      · simpa [World.cell?, hh] using hu
      · cases hu
    obtain ⟨g0, g1, g2, g3, g4⟩ := cellsE_get l i hi
    rw [Nat.zero_add]
    exact ⟨key _ _ g0, key _ _ g1, key _ _ g2, key _ _ g3, key _ _ g4⟩
theorem Tryd.info31 : (Tryd.prog.info? 31).map (fun i => (i.zero, i.size, i.bytes)) = some (some (.agg #[.int .i8 0, .int .u64 0, .int .u64 0, .int .i64 0, .int .i64 0]), 5, 40) := by kernel_rfl

theorem append_ents {w : World} {ops : Array Oper} {rest : List Oper} {o : Oper} {a : Act} {Q : Exit → Act → World → Prop} (hgd : o.guard = none) (s x : Operand)
    (ho : o.op = .call { callee := .builtin .append, args := #[s, x], argTypes := #[22, 22] }) (base : Nat) (v : Value) (n : Nat) (xs : List Value) (hs : a.eval s = v) (hown : w.ownsRow base 31 5 v n xs)
    (A : Option Addr) (m c : Nat) (l : List Ent) (hx : a.eval x = .slice A m c) (hc : A = none → c = 0) (hm : m = l.length) (he : Ents w A l) (h63 : n + m ≤ 1000) (hbase : base ≤ w.heap.size)
    (h : ∀ v' w', w'.ownsRow base 31 5 v' (n + m) (xs ++ cellsE l) → w.grownBy w' v.ownBlock → wpList Tryd.prog ops Q rest (a.put o.dst v') w') : wpList Tryd.prog ops Q (o :: rest) a w := by
  obtain ⟨i0, hi, hz0, hz1, hz2⟩ := info_parts Tryd.info31
  cases A with
  | none =>
    obtain rfl : l = [] := by
      cases l with
      | nil => rfl
      | cons e l =>
        obtain ⟨b, off, he', _⟩ := he 0 (by simp)
        cases he'
    obtain rfl : m = 0 := hm
    obtain rfl : c = 0 := hc rfl
    refine wpList_append_own_none hgd s x 22 ho base 31 i0 5 Tryd.underlying22 hi v n xs hs hown hx ?_
    exact h v w (by simpa [cellsE] using hown) (World.grownBy.refl _ _)
  | some ad =>
    exact wpList_append_own _ hgd s x 22 ho base 31 i0 _ 5 40 Tryd.underlying22 hi hz0 hz1 hz2 rfl (by decide) v n xs hs hown ad m c (cellsE l) hx (by rw [cellsE_len, hm]) he.news (cellsE_one l) (by unfold maxLen; omega) (by omega) hbase (fun v' w' h1 h2 _ => h v' w' h1 h2)

def RowPost (w : World) (l : List Ent) (ε : Ending) (w' : World) : Prop := ∃ ao cap, ε = .returned (.slice ao l.length cap) ∧ l.length ≤ cap ∧ cap ≤ 9223372036854775807 ∧ (ao = none → cap = 0) ∧ (∀ ad, ao = some ad → w.heap.size ≤ ad.block) ∧ Ents w' ao l ∧ Below w.heap.size w w'

set_option maxHeartbeats 1000000 in
theorem gather_ok (rb : Nat) (a0 a1 : Option Addr) (n0 c0 n1 c1 : Nat) (l0 l1 : List Ent) (w : World) (h0 : n0 = l0.length) (h1 : n1 = l1.length) (b0 : n0 ≤ 100) (b1 : n1 ≤ 100) (z0 : a0 = none → c0 = 0) (z1 : a1 = none → c1 = 0) (x0 : w.cell? ⟨rb, 0, none⟩ = some (.slice a0 n0 c0)) (x1 : w.cell? ⟨rb, 1, none⟩ = some (.slice a1 n1 c1)) (e0 : Ents w a0 l0) (e1 : Ents w a1 l1) :
    Calls Tryd.prog 24 #[.slice (some ⟨rb, 0, none⟩) 2 2] w (RowPost w (l0 ++ l1)) := by
  obtain ⟨i0, hi, hz0, hz1, hz2⟩ := info_parts Tryd.info31
  have HI := Lib.hid hi; have HZ0 := Lib.hid hz0; have HZ1 := Lib.hid hz1; have HZ2 := Lib.hid hz2
  have Z0 := Lib.hid z0; have Z1 := Lib.hid z1; have H0 := Lib.hid h0; have H1 := Lib.hid h1; have E0 := Lib.hid e0; have E1 := Lib.hid e1
  have hlt := lt_of_cell x0
  simp only at hlt
  obtain ⟨wm, hmk, hown, hgr⟩ := run_make_own (P := Tryd.prog) w w.heap.size 22 31 i0 _ 5 Tryd.underlying22 hi hz0 hz1 .i64 .i64 (n0 + n1) (by rw [hz2]; omega) (by unfold maxLen; omega) (Nat.le_refl _)
  rw [show (((n0 + n1 : Nat)) : Int) = (n0 : Int) + n1 by omega] at hmk
  have HOW := Lib.hid hown; have HGR := Lib.hid hgr
  have BM := Lib.hid (grown_none (Below.refl w.heap.size w) hgr (Nat.le_refl _))
  clear hi hz0 hz1 hz2 h0 h1 e0 e1 hown hgr z0 z1
  by_cases hz : n0 + n1 = 0
  · obtain rfl : n0 = 0 := by omega
    obtain rfl : n1 = 0 := by omega
    obtain rfl : l0 = [] := List.length_eq_zero_iff.1 H0.out.symm
    obtain rfl : l1 = [] := List.length_eq_zero_iff.1 H1.out.symm
    clear hmk hz
    go_enter Tryd.func24, Tryd.ntmps24
    go_wp2_with fail
    refine wp_loop_rounds 3 ?_
    rw [rounds_succ]
    go_wp2_with fail
    rw [rounds_succ]
    go_wp2_with fail
    rw [rounds_succ]
    go_wp2_with fail
    go_ret
    exact ⟨none, 0, rfl, by simp, by omega, (fun _ => rfl), (fun _ h => by cases h), (fun i hi => by simp at hi), Below.refl _ _⟩
  · have hz' : (((n0 : Int) + (n1 : Int)) == 0) = false := by simp; omega
    have hzn : (n0 + n1 == 0) = false := by simp; omega
    clear hz
    go_enter Tryd.func24, Tryd.ntmps24
    go_wp2_with fail
    refine wp_loop_rounds 3 ?_
    rw [rounds_succ]
    go_wp2_with fail
    rw [rounds_succ]
    go_wp2_with fail
    rw [rounds_succ]
    go_wp2_with fail
    have hcm := oldc BM.out
    have hzm : w.heap.size ≤ wm.heap.size := BM.out.size
    clear hmk hz' hzn
    refine wp_loop_rounds 3 ?_
    rw [rounds_succ]
    go_wp2_with (at_builtin; refine append_ents rfl _ _ rfl w.heap.size (.slice (some ⟨w.heap.size, 0, none⟩) 0 (n0 + n1)) 0 [] rfl HOW.out a0 n0 c0 l0 rfl Z0.out H0.out (E0.out.below BM.out) (by omega) hzm ?_)
    intro v1 w1 hown1 hgr1
    have HOW1 := Lib.hid hown1
    have B1 := Lib.hid (BM.out.grown hgr1 hzm (fun q hq => by simp [Value.ownBlock] at hq; omega))
    have hc1' := oldc B1.out
    have hz1 : w.heap.size ≤ w1.heap.size := B1.out.size
    clear hown1 hgr1 hcm
    go_wp2_with fail
    rw [rounds_succ]
    go_wp2_with (at_builtin; go_must (refine append_ents rfl _ _ rfl w.heap.size v1 n0 _ rfl HOW1.out a1 n1 c1 l1 rfl Z1.out H1.out (E1.out.below B1.out) (by omega) hz1 ?_))
    intro v2 w2 hown2 hgr2
    have HOW2 := Lib.hid hown2
    have B2 := Lib.hid (B1.out.grown hgr2 hz1 (fun q hq => (HOW1.out.lt q hq).1))
    clear hown2 hgr2 hc1'
    go_wp2_with fail
    rw [rounds_succ]
    go_wp2_with fail
    go_ret
    have hf : w2.ownsRow w.heap.size 31 5 v2 (l0 ++ l1).length (cellsE (l0 ++ l1)) := by
      have := HOW2.out
      rw [H0.out, H1.out] at this
      rw [cellsE_app, List.length_append]
      simpa using this
    obtain ⟨ao, cap, hv, q1, q2, q3, q4, q5⟩ := own_ents rfl hf
    exact ⟨ao, cap, congrArg Ending.returned hv, q1, q2, q3, q4, q5, B2.out⟩
end Go.Proofs.YtdmcmpbappjdoaaDoor
