/- Layer 17: the document's giver: Ask. -/
import Derived.Test.YtbdphbkpglhhaaaC2
namespace Go.Proofs.Ytbdphbkpglhhaaa
open Go.ChangeShapes Go.WideShapes Go.ChangeAt Go.RowKit
set_option linter.unusedVariables false

theorem rask_bad (r : Nat) (s : Int) (ao : Option Addr) (len cap : Nat) (w : World) (hs : sOk s = false) :
    Calls Try.prog 16 #[.pointer (some ⟨r, 0, none⟩), .int .i64 s, .slice ao len cap] w fun e w' => e = .returned (.tuple #[.int .i64 0, .bool false, .int .i64 2]) ∧ w = w' := by
  by_cases h1 : s < 1
  · have d1 : decide (s < 1) = true := by simpa using h1
    clear hs
    go_enter Try.func16, Try.ntmps16
    go_wp2_with fail
    go_ret3
    exact ⟨rfl, rfl⟩
  · have d1 : decide (s < 1) = false := by simpa using h1
    have d2 : decide (6 < s) = true := by simp [sOk] at hs ⊢; omega
    clear hs
    go_enter Try.func16, Try.ntmps16
    go_wp2_with fail
    go_ret3
    exact ⟨rfl, rfl⟩

theorem rask_has (r h N M : Nat) (now : Int) (g : Nat → Int) (s : Int) (ao : Option Addr) (len cap : Nat) (w : World) (hg : Rf w r h M now g) (hM : M = N + 1) (hN : N ≤ 16) (hs : sOk s = true) (hA : ofA N g s ≠ 0) :
    Calls Try.prog 16 #[.pointer (some ⟨r, 0, none⟩), .int .i64 s, .slice ao len cap] w fun e w' => e = .returned (.tuple #[.int .i64 (ofA N g s), .bool false, .int .i64 0]) ∧ w = w' := by
  have HG := Lib.hid hg; have HM := Lib.hid hM; have HA := Lib.hid hA
  have hs' := sOk_iff.1 hs
  have d1 : decide (s < 1) = false := by simp; omega
  have d2 : decide (6 < s) = false := by simp; omega
  clear hs hs' hg hM hA
  go_enter Try.func16, Try.ntmps16
  go_wp2_with fail
  refine (rof_ok r h N M now g s _ HG.out HM.out hN).mono ?_
  rw [show ofB N g s = true from by simpa [ofB] using HA.out]
  rintro e w' ⟨rfl, rfl⟩
  go_wp2_with fail
  go_ret3
  exact ⟨rfl, rfl⟩

theorem rask_free (r h N M : Nat) (now : Int) (g : Nat → Int) (s : Int) (ao : Option Addr) (len cap : Nat) (w : World) (hg : Rf w r h M now g) (hM : M = N + 1) (hN : N ≤ 16) (hs : sOk s = true) (hA : ofA N g s = 0) (hL : leastA N g ≠ 0) :
    Calls Try.prog 16 #[.pointer (some ⟨r, 0, none⟩), .int .i64 s, .slice ao len cap] w fun e w' => e = .returned (.tuple #[.int .i64 (leastA N g), .bool false, .int .i64 0]) ∧ Rf w' r h M now (upd g (leastA N g) s) ∧ Two w w' r h := by
  have HG := Lib.hid hg; have HM := Lib.hid hM; have HA := Lib.hid hA; have HL := Lib.hid hL
  have hs' := sOk_iff.1 hs
  have d1 : decide (s < 1) = false := by simp; omega
  have d2 : decide (6 < s) = false := by simp; omega
  have hc0 : 0 < cnt g N 1 := by
    have : cnt g N 1 ≠ 0 := fun h => hL ((cnt_zero g N 1 (by omega)).1 h)
    omega
  have hc1 : decide ((0 : Int) < (cnt g N 1 : Int)) = true := by simp; omega
  have hc2 : decide (0 < cnt g N 1) = true := by simp; omega
  clear hs hs' hg hM hA hL
  go_enter Try.func16, Try.ntmps16
  go_wp2_with fail
  refine (rof_ok r h N M now g s _ HG.out HM.out hN).mono ?_
  rw [show ofB N g s = false from by simp [ofB, HA.out]]
  rintro e w' ⟨rfl, rfl⟩
  go_wp2_with fail
  refine (rfree_ok r h N M now g _ HG.out HM.out hN).mono ?_
  rintro e w' ⟨rfl, rfl⟩
  go_wp2_with fail
  refine (rleast_ok r h N M now g s _ HG.out HM.out hN HL.out).mono ?_
  rintro e w1 ⟨rfl, hg1, ht1⟩
  have HG1 := Lib.hid hg1; have HT1 := Lib.hid ht1
  clear hg1 ht1
  go_wp2_with fail
  go_ret3
  exact ⟨rfl, HG1.out, HT1.out⟩

/-- The next age's row lies in block d. -/
structure Nx (w0 w : World) (r h d M : Nat) (now : Int) (g x : Nat → Int) : Prop where
  rf : Rf w r h M now g
  nx : w.heap[d]? = some (.cells (rowM M x) 3 (0, 0))
  two : Two w0 w r h
theorem Nx.c {w0 w : World} {r h d M : Nat} {now : Int} {g x : Nat → Int} (H : Nx w0 w r h d M now g x) (k : Nat) (hk : k < M) : w.cell? ⟨d, k, none⟩ = some (.int .i64 (x k)) := by simp [World.cell?, H.nx, rowM_get M x k hk]
theorem Nx.free {w0 w : World} {r h d M : Nat} {now : Int} {g x : Nat → Int} (H : Nx w0 w r h d M now g x) (o : Nat) : w.frozen? ⟨d, o, none⟩ = false := by simp [World.frozen?, H.nx]
theorem Nx.congr {w0 w : World} {r h d M : Nat} {now : Int} {g x y : Nat → Int} (H : Nx w0 w r h d M now g x) (he : ∀ k, k < M → x k = y k) : Nx w0 w r h d M now g y := ⟨H.rf, by rw [H.nx, rowM_congr M x y he], H.two⟩
theorem Nx.set {w0 w : World} {r h d M : Nat} {now : Int} {g x : Nat → Int} (H : Nx w0 w r h d M now g x) (h1 : d ≠ r) (h2 : d ≠ h) (h3 : w0.heap.size ≤ d) (k : Nat) (v : Int) : Nx w0 (w.setCell ⟨d, k, none⟩ (.int .i64 v)) r h d M now g (upd x k v) :=
  ⟨H.rf.other h1 h2 _ _, by rw [block_set H.nx, rowM_set], H.two.setCell (.inr (.inr h3)) _⟩

theorem Nx.turn {w0 w : World} {r h d M : Nat} {now : Int} {g x : Nat → Int} (H : Nx w0 w r h d M now g x) (h1 : d ≠ r) :
    Rf ((w.setCell ⟨r, 0, none⟩ (.slice (some ⟨d, 0, none⟩) M M)).setCell ⟨r, 1, none⟩ (.int .i64 (now + 1))) r d M (now + 1) x ∧ Two w0 ((w.setCell ⟨r, 0, none⟩ (.slice (some ⟨d, 0, none⟩) M M)).setCell ⟨r, 1, none⟩ (.int .i64 (now + 1))) r h := by
  refine ⟨⟨?_, ?_, Ne.symm h1⟩, (H.two.setCell (.inl rfl) _).setCell (.inl rfl) _⟩
  · rw [block_set (block_set H.rf.gv 0 _) 1 _]
    simp
  · exact (Below.heap_setCell _ _ _ _ (by simpa using h1)).trans ((Below.heap_setCell _ _ _ _ (by simpa using h1)).trans H.nx)
/-- What Ask leaves where no ASID is free. -/
def RAge (r h N M : Nat) (now : Int) (g : Nat → Int) (s : Int) (len : Nat) (R : Nat → Int) (w : World) (room : Bool) (e : Ending) (w' : World) : Prop :=
      (room = false → e = .returned (.tuple #[.int .i64 0, .bool false, .int .i64 20]) ∧ Rf w' r h M now g ∧ Two w w' r h) ∧
      (room = true → e = .returned (.tuple #[.int .i64 (leastA N (kept N g s R len)), .bool true, .int .i64 0]) ∧ Rf w' r w.heap.size M (now + 1) (upd (kept N g s R len) (leastA N (kept N g s R len)) s) ∧ Two w w' r h)
set_option maxHeartbeats 1000000 in
set_option maxRecDepth 100000 in
theorem rask_age (r h N M : Nat) (now : Int) (g : Nat → Int) (s : Int) (ao : Option Addr) (len cap : Nat) (R : Nat → Int) (w : World) (hg : Rf w r h M now g) (hM : M = N + 1) (hN : N ≤ 16) (hlen : len ≤ 20) (hR : Run w ao len R) (hRr : ∀ rb off, ao = some ⟨rb, off, none⟩ → 0 < len → rb ≠ r ∧ rb ≠ h) (hs : sOk s = true) (hA : ofA N g s = 0) (hL : leastA N g = 0) (h0 : g 0 = 0) (a0 : 0 ≤ now) (a1 : now ≤ 1000000) (room : Bool) (hroom : roomB g R len M = room) :
    Calls Try.prog 16 #[.pointer (some ⟨r, 0, none⟩), .int .i64 s, .slice ao len cap] w (RAge r h N M now g s len R w room) := by
  have HG := Lib.hid hg; have HM := Lib.hid hM; have HA := Lib.hid hA; have HL := Lib.hid hL; have HS := Lib.hid hs; have H0 := Lib.hid h0; have HRm := Lib.hid hroom
  have HR := Lib.hid hR
  have HRR := Lib.hid hRr
  have hM17 : M ≤ 17 := by omega
  have hs' := sOk_iff.1 hs
  have d1 : decide (s < 1) = false := by simp; omega
  have d2 : decide (6 < s) = false := by simp; omega
  have hc0 : cnt g N 1 = 0 := (cnt_zero g N 1 (by omega)).2 hL
  have HC0 := Lib.hid hc0
  have e0 := hg.c0
  have hrlt := lt_of_block hg.gv
  have hhlt := lt_of_block hg.has
  have hmk := make_run M M rfl hM17 w
  clear hs hs' hg hM hA hL h0 hR hRr hc0 hroom
  go_enter Try.func16, Try.ntmps16
  go_wp2_with fail
  refine (rof_ok r h N M now g s _ HG.out HM.out hN).mono ?_
  rw [show ofB N g s = false from by simp [ofB, HA.out]]
  rintro e w' ⟨rfl, rfl⟩
  go_wp2_with fail
  refine (rfree_ok r h N M now g _ HG.out HM.out hN).mono ?_
  rw [HC0.out]
  rintro e w' ⟨rfl, rfl⟩
  go_wp2_with fail
  have HN0 := Lib.hid (show Nx w (w.alloc (.cells (rowM M fun _ => 0) 3)) r h w.heap.size M now g (fun _ => 0) from ⟨HG.out.alloc _, heap_alloc_new _ _, (Two.refl _ _ _).alloc _⟩)
  clear hmk e0
  go_loopw [12, 13] (fun t i wr => ∃ k : Nat, 1 ≤ k ∧ k ≤ M ∧ t = .bool (roomB g R len k) ∧ i = .int .i64 k ∧ Nx w wr r h w.heap.size M now g (nx g R len k)) (fun _ i _ => 17 - (intOf i).toNat)
  case atStart => exact ⟨1, by omega, by have := HM.out; omega, rfl, rfl, HN0.out.congr (fun j _ => nx_zero g R len j)⟩
  case round =>
    obtain ⟨k, hk, hkM, rfl, rfl, hn1⟩ := hrel
    have e0 := hn1.rf.c0
    have HN1 := Lib.hid hn1
    clear hn1
    by_cases hkn : k < M
    · go_wp2_with fail
      clear e0
      obtain ⟨wo, rfl⟩ : ∃ wo : World, wo = wr := ⟨_, rfl⟩
      go_loopw [14] (fun i wr => ∃ q : Nat, q ≤ len ∧ i = .int .i64 q ∧ Nx w wr r h w.heap.size M now g (nx2 g R len k q)) (fun i _ => 20 - (intOf i).toNat)
      case atStart => exact ⟨0, by omega, rfl, HN1.out.congr (fun j _ => nx2_zero g R len k j)⟩
      case round =>
        obtain ⟨q, hq, rfl, hn2⟩ := hrel
        have e0 := hn2.rf.c0
        have HN2 := Lib.hid hn2
        clear hn2
        by_cases hql : q < len
        · obtain ⟨rb, ro, rfl, hrc0⟩ := HR.out q hql
          obtain ⟨n1, n2⟩ := HRR.out rb ro rfl (by omega)
          have hrblt : rb < w.heap.size := block_lt_of_cell hrc0
          have hrc : wr.cell? ⟨rb, ro + q, none⟩ = some (.int .i64 (R q)) := by
            simp only [World.cell?] at hrc0 ⊢
            rw [HN2.out.two.block rb hrblt n1 n2]
            exact hrc0
          clear hrc0
          cases hm : (R q == (k : Int))
          · have HP := Lib.hid hm
            go_wp2_with fail
            go_roundw
            case rel => exact ⟨q + 1, by omega, by go_num, HN2.out.congr (fun j _ => nx2_no HP.out j)⟩
            case measure => simp [intOf]; omega
          · have HP := Lib.hid hm
            have hc := HN2.out.rf.c k hkn
            have hd := HN2.out.c k hkn
            have hz := HN2.out.free k
            go_wp2_with fail
            go_roundw
            case rel => exact ⟨q + 1, by omega, by go_num, (HN2.out.set (by omega) (by omega) (Nat.le_refl _) k (g k)).congr (fun j _ => nx2_yes HP.out j)⟩
            case measure => simp [intOf]; omega
        · obtain rfl : q = len := by omega
          have HN3 := Lib.hid (HN2.out.congr (y := nx g R q (k + 1)) (fun j _ => nx2_end g R q k hk j))
          have hd := HN3.out.c k hkn
          have HST := Lib.hid (room_step (f := g) (R := R) (len := q) hk)
          clear HN2
          cases hrb : roomB g R q k
          · have HRB := Lib.hid hrb
            cases hx0 : (nx g R q (k + 1) k == 0)
            · have HX0 := Lib.hid hx0
              go_wp2_with fail
              go_roundw
              case rel => exact ⟨k + 1, by omega, by omega, by rw [HST.out, HRB.out, HX0.out]; rfl, by go_num, HN3.out⟩
              case measure => simp [intOf]; omega
            · have HX0 := Lib.hid hx0
              go_wp2_with fail
              go_roundw
              case rel => exact ⟨k + 1, by omega, by omega, by rw [HST.out, HRB.out, HX0.out]; rfl, by go_num, HN3.out⟩
              case measure => simp [intOf]; omega
          · have HRB := Lib.hid hrb
            go_wp2_with fail
            go_roundw
            case rel => exact ⟨k + 1, by omega, by omega, by rw [HST.out, HRB.out]; rfl, by go_num, HN3.out⟩
            case measure => simp [intOf]; omega
    · obtain rfl : k = M := by omega
      rw [HRm.out]
      cases room
      · go_wp2_with fail
        go_ret3
        exact ⟨fun _ => ⟨rfl, HN1.out.rf, HN1.out.two⟩, fun h => by cases h⟩
      · have HN3 := Lib.hid (HN1.out.congr (y := kept N g s R len) (fun j hj => by have := HM.out; subst this; exact nx_kept HS.out HA.out HL.out H0.out j hj))
        clear HN1
        have e1 := HN3.out.rf.c1
        have z0 := HN3.out.rf.freer 0
        have z1 := HN3.out.rf.freer 1
        have hall : ¬ allS N g s R len := fun ha => by
          have := (room_all (f := g) (R := R) (len := len) hN HS.out HA.out HL.out).2 ha
          rw [← HM.out, HRm.out] at this
          cases this
        have HL2 := Lib.hid (flush_least N g s R len hN hall)
        clear hall
        go_wp2_with fail
        obtain ⟨hr4, ht4⟩ := HN3.out.turn (by omega)
        refine (rleast_ok r w.heap.size N k (now + 1) (kept N g s R len) s _ hr4 HM.out hN HL2.out).mono ?_
        rintro e w5 ⟨rfl, hg5, ht5⟩
        have HG5 := Lib.hid hg5; have HT5 := Lib.hid (ht4.trans ht5 (.inr (Nat.le_refl _)))
        clear hg5 ht5 hr4 ht4 e0 e1 z0 z1
        go_wp2_with fail
        go_ret3
        exact ⟨(fun h => by cases h), fun _ => ⟨rfl, HG5.out, HT5.out⟩⟩

/-- What the document's Ask answers and leaves. -/
def RAskPost (r h N M : Nat) (now : Int) (g : Nat → Int) (s : Int) (len : Nat) (R : Nat → Int) (w : World) (e : Ending) (w' : World) : Prop :=
  e = .returned (.tuple #[.int .i64 (askA N g s R len), .bool (askF N g s R len), .int .i64 (askE N g s R len)]) ∧ ∃ h', Rf w' r h' M (askT N g s R len now) (askG N g s R len) ∧ (h' = h ∨ h' = w.heap.size) ∧ Two w w' r h
theorem rask_any (r h N M : Nat) (now : Int) (g : Nat → Int) (s : Int) (ao : Option Addr) (len cap : Nat) (R : Nat → Int) (w : World) (hg : Rf w r h M now g) (hM : M = N + 1) (hN : N ≤ 16) (hlen : len ≤ 20) (hR : Run w ao len R) (hRr : ∀ rb off, ao = some ⟨rb, off, none⟩ → 0 < len → rb ≠ r ∧ rb ≠ h) (h0 : g 0 = 0) (a0 : 0 ≤ now) (a1 : now ≤ 1000000) :
    Calls Try.prog 16 #[.pointer (some ⟨r, 0, none⟩), .int .i64 s, .slice ao len cap] w (RAskPost r h N M now g s len R w) := by
  unfold RAskPost
  cases hs : sOk s
  · simp only [askT, askA, askF, askE, askG, hs, if_true, Bool.false_eq_true, if_false]
    refine (rask_bad r s ao len cap w hs).mono ?_
    rintro e w' ⟨rfl, rfl⟩
    exact ⟨rfl, h, hg, .inl rfl, Two.refl _ _ _⟩
  · by_cases hA : ofA N g s = 0
    · by_cases hL : leastA N g = 0
      · have hra := room_all (f := g) (R := R) (len := len) hN hs hA hL
        by_cases hall : allS N g s R len
        · simp only [askT, askA, askF, askE, askG, hs, hA, hL, hall, ne_eq, not_true, if_true, if_false, Bool.true_eq_false, Bool.false_eq_true]
          refine (rask_age r h N M now g s ao len cap R w hg hM hN hlen hR hRr hs hA hL h0 a0 a1 false (by rw [hM]; exact hra.2 hall)).mono ?_
          intro e w' hp
          obtain ⟨rfl, h1, h2⟩ := hp.1 rfl
          exact ⟨rfl, h, h1, .inl rfl, h2⟩
        · have hrt : roomB g R len M = true := by
            cases hb : roomB g R len M
            · rw [hM] at hb; exact absurd (hra.1 hb) hall
            · rfl
          simp only [askT, askA, askF, askE, askG, hs, hA, hL, hall, ne_eq, not_true, if_true, if_false, Bool.true_eq_false]
          refine (rask_age r h N M now g s ao len cap R w hg hM hN hlen hR hRr hs hA hL h0 a0 a1 true hrt).mono ?_
          intro e w' hp
          obtain ⟨rfl, h1, h2⟩ := hp.2 rfl
          exact ⟨rfl, _, h1, .inr rfl, h2⟩
      · simp only [askT, askA, askF, askE, askG, hs, hA, hL, ne_eq, not_true, not_false_eq_true, if_true, if_false, Bool.true_eq_false, Bool.false_eq_true]
        refine (rask_free r h N M now g s ao len cap w hg hM hN hs hA hL).mono ?_
        rintro e w' ⟨rfl, h1, h2⟩
        exact ⟨rfl, h, h1, .inl rfl, h2⟩
    · simp only [askT, askA, askF, askE, askG, hs, hA, ne_eq, not_false_eq_true, if_true, if_false, Bool.true_eq_false, Bool.false_eq_true]
      refine (rask_has r h N M now g s ao len cap w hg hM hN hs hA).mono ?_
      rintro e w' ⟨rfl, rfl⟩
      exact ⟨rfl, h, hg, .inl rfl, Two.refl _ _ _⟩

theorem askG_inj {N : Nat} {g : Nat → Int} (hi : Inj N g) (hN : N ≤ 16) (s : Int) (R : Nat → Int) (len : Nat) : Inj N (askG N g s R len) := by
  by_cases he : askE N g s R len = 0
  · exact (apart_ok (ow := fun _ => 0) hi (fun j _ _ h => absurd rfl h) hN s R len he).inj
  · rw [ask_not he]; exact hi
theorem askG_zero {N : Nat} {g : Nat → Int} (h0 : g 0 = 0) (s : Int) (R : Nat → Int) (len : Nat) (hN : N ≤ 16) : askG N g s R len 0 = 0 := by
  unfold askG
  split
  · exact h0
  · split
    · exact h0
    · split
      · rename_i h1
        have := leastA_some h1
        unfold upd; rw [if_neg (by omega), h0]
      · split
        · exact h0
        · rename_i h3
          have := leastA_some (flush_least N g s R len hN h3)
          have e : kept N g s R len 0 = 0 := by unfold kept keep; rw [if_neg (by omega), h0]
          unfold upd; rw [if_neg (by omega), e]
theorem goneG_zero {N : Nat} {g : Nat → Int} (h0 : g 0 = 0) (s : Int) : goneG N g s 0 = 0 := by
  unfold goneG
  split
  · exact h0
  · unfold upd; rw [if_neg (by omega), h0]
end Go.Proofs.Ytbdphbkpglhhaaa
