/- Statement BufferOwn of layer 9: the law returns true at every input, and every argument reads as before. The package variable kinds reads as its initialiser lays it (tied to the program's text). -/
import Derived.Test.YtdmcmpbappjdoaaDoorO1
import Derived.Test.YtdmcmpbappjdoaaDoorO2
import Derived.Test.YtdmcmpbappjdoaaDoorO3
import Derived.Test.YtdmcmpbappjdoaaDoorO4
import Derived.Test.YtdmcmpbappjdoaaDoorShape
import Derived.Test.YtdmcmpbappjdoaaDoorCards
import Derived.Test.YtdmcmpbappjdoaaDoorTie
namespace Go.Proofs.YtdmcmpbappjdoaaDoor
open Go.ChangeShapes Go.WideShapes Go.ChangeAt Go.RowKit
set_option linter.unusedVariables false

theorem mask (x : Int) : 0 ≤ bits BinOp.and IntKind.i64 x 65535 ∧ bits BinOp.and IntKind.i64 x 65535 ≤ 65535 := by
  have e : bits BinOp.and IntKind.i64 x 65535 = IntKind.i64.wrap (((BitVec.ofInt 64 x &&& BitVec.ofInt 64 65535).toNat : Nat) : Int) := rfl
  have h1 : (BitVec.ofInt 64 65535).toNat = 65535 := by decide
  have h2 : (BitVec.ofInt 64 x &&& BitVec.ofInt 64 65535).toNat ≤ 65535 := by
    rw [BitVec.toNat_and, h1]
    exact Nat.and_le_right
  rw [e, IntKind.wrap_i64]
  omega
/-- A slice of integers. -/
def Ints (w : World) (ap : Option Addr) (np : Nat) (Pv : Nat → Int) : Prop := ∀ j, j < np → ∃ pb po, ap = some ⟨pb, po, none⟩ ∧ w.cell? ⟨pb, po + j, none⟩ = some (.int .i64 (Pv j))
theorem Ints.below {w w' : World} {ap : Option Addr} {np : Nat} {Pv : Nat → Int} (h : Ints w ap np Pv) (hb : Below w.heap.size w w') : Ints w' ap np Pv := fun j hj => by
  obtain ⟨pb, po, e, c⟩ := h j hj
  exact ⟨pb, po, e, (hb.cell (p := ⟨pb, po + j, none⟩) (lt_of_cell c)).trans c⟩
theorem own_nums {w : World} {base : Nat} {v : Value} {ms : List Nat} (h : w.ownsRow base 3 1 v ms.length (nums ms)) (h0 : 0 < ms.length) : ∃ g c, v = .slice (some ⟨g, 0, none⟩) ms.length c ∧ ∀ (j : Nat) (hj : j < ms.length), w.cell? ⟨g, j, none⟩ = some (.int .i64 (ms[j] : Nat)) := by
  rcases h.2 with ⟨rfl, hn⟩ | ⟨g, cap, cur, rfl, hb, hh, hle, hcap, hsz, htake⟩
  · omega
  · refine ⟨g, cap, rfl, fun j hj => ?_⟩
    have : (nums ms)[j]? = some (.int .i64 (ms[j] : Nat)) := by simp [nums, List.getElem?_eq_getElem hj]
    rw [← htake, List.getElem?_take, if_pos (by omega)] at this
    simpa [World.cell?, hh] using this
/-- What holds at the head of a round: the entries that are left make of memory what all would have made. -/
structure Rd (w0 : World) (W : Nat → Int) (ar : Option Addr) (nr cr : Nat) (rest : List Ent) (g5 : Nat) (M : Nat → Int) (wr : World) : Prop where
  len : nr = rest.length
  cap : nr ≤ cr
  capm : cr ≤ 9223372036854775807
  ents : Ents wr ar rest
  oks : Oks rest
  chk : checkB rest = true
  sm : ∀ e ∈ rest, e.fr < 4
  mem : Ms wr g5 M
  run : runL rest M = W
  be : Below w0.heap.size w0 wr

set_option maxHeartbeats 2000000 in
set_option maxRecDepth 100000 in
theorem own_walk (ao : Option Addr) (cap : Nat) (l : List Ent) (n : Nat) (ap : Option Addr) (np cp : Nat) (Pv : Nat → Int) (w : World) (hn : n = l.length) (hcap : n ≤ cap) (hcap2 : cap ≤ 9223372036854775807) (hnp : np ≤ 9223372036854775807) (hk : TK w) (he : Ents w ao l) (ho : Oks l) (hp : Ints w ap np Pv) :
    Calls Tryd.prog 3 #[.slice ao n cap, .slice ap np cp] w fun ε w' => ε = .returned (.bool true) ∧ Below w.heap.size w w' := by
  have HN := Lib.hid hn; have HK := Lib.hid hk; have HE := Lib.hid he; have HO := Lib.hid ho; have HP := Lib.hid hp; have HCAP2 := Lib.hid hcap2
  clear hk he ho hn hp
  go_enter Tryd.func3, Tryd.ntmps3
  go_wp2_with fail
  refine (check_ok ao cap l n _ HN.out (by omega) HK.out HE.out HO.out).mono ?_
  rintro ε w1 ⟨rfl, hb1⟩
  have B1 := Lib.hid hb1
  clear hb1
  cases hch : checkB l
  · have hcc : (cc false != 0) = true := rfl
    go_wp2_with fail
    refine (wakes_ok _ (HK.out.below B1.out)).mono ?_
    rintro ε w9 ⟨rfl, hb9⟩
    have B9 := Lib.hid (B1.out.trans (hb9.mono B1.out.size))
    clear hb9
    go_wp2_with fail
    go_ret
    exact ⟨rfl, B9.out⟩
  · have hcc : (cc true != 0) = false := rfl
    have HCH := Lib.hid hch
    have hn8 : n ≤ 8 := by have h := HCH.out; simp [checkB] at h; have := HN.out; omega
    clear hch
    by_cases hp1 : 100 < np
    · have hd : decide (100 < (np : Int)) = true := by simp; omega
      have hd' : decide (100 < np) = true := by simpa using hp1
      go_wp2_with fail
      refine (wakes_ok _ (HK.out.below B1.out)).mono ?_
      rintro ε w9 ⟨rfl, hb9⟩
      have B9 := Lib.hid (B1.out.trans (hb9.mono B1.out.size))
      clear hb9
      go_wp2_with fail
      go_ret
      exact ⟨rfl, B9.out⟩
    · have hd : decide (100 < (np : Int)) = false := by simp; omega
      have hd' : decide (100 < np) = false := by simpa using hp1
      have hnp1 : np ≤ 100 := by omega
      have hmk := mk2k w1
      clear hcap2 hnp
      go_wp2_with fail
      clear hmk hd hd' hp1
      have HM0 := Lib.hid (mo_new w1)
      have B2 := Lib.hid (B1.out.alloc B1.out.size (.cells z2k 28))
      have hg0 : w.heap.size ≤ w1.heap.size := B1.out.size
      refine ini_loop _ _ _ _ _ _ _ _ _ _ _ _ _ _ _ _ _ _ _ _ _ _ _ _ _ _ _ _ _ _ _ _ _ _ _ _ _ _ _ _ _ _ _ _ _ _ _ _ _ _ _ _ _ _ _ _ _ _ _ _ _ _ _ _ _ _ _ _ _ _ _ _ _ _ _ _ _ _ _ _ _ _ _ _ _ _ _ _ _ _ _ _ _ _ _ _ _ _ _ _ _ _ _ _ _ _ _ _ _ _ _ _ _ _ _ _ _ _ _ _ _ _ _ _ _ _ _ _ _ _ _ _ _ _ _ _ _ _ _ _ _ _ _ _ _ w1.heap.size 2048 w _ hg0 HM0 B2 (Lib.hid ?_)
      intro v6 v31 v32 v33 v34 v35 v36 v37 v38 v39 w2 hm2 hb2
      have HM2 := Lib.hid hm2; have B2' := Lib.hid hb2
      clear hm2 hb2 HM0 B2
      go_wp2_with fail
      refine want_loop _ _ _ _ _ _ _ _ _ _ _ _ _ _ _ _ _ _ _ _ _ _ _ _ _ _ _ _ _ _ _ _ _ _ _ _ _ _ _ _ _ _ _ _ _ _ _ _ _ _ _ _ _ _ _ _ _ _ _ _ _ _ _ _ _ _ _ _ _ _ _ _ _ _ _ _ _ _ _ _ _ _ _ _ _ _ _ _ _ _ _ _ _ _ _ _ _ _ _ _ _ _ _ _ _ _ _ _ _ _ _ _ _ _ _ _ _ _ _ _ _ _ _ _ _ _ _ _ _ _ _ _ _ _ _ _ _ _ _ _ _ _ _ _ w1.heap.size 2048 ao n cap l (fun j => (j : Int)) _ hn8 HN (Lib.hid (HK.out.below B2'.out)) (Lib.hid (HE.out.below B2'.out)) HO HM2 (Lib.hid ?_) (Lib.hid ?_)
      · intro g7 c7 v4 v9 v43 v44 v45 v46 v47 v48 v49 v50 v51 v52 v53 v54 v55 v56 v57 v58 v59 v60 v61 v62 v63 v64 w3 hm3 hsm3 hb3
        have HW3 := Lib.hid hm3
        have B3 := Lib.hid (B2'.out.trans (hb3.mono B2'.out.size))
        have HM3 := Lib.hid (HM2.out.below hb3)
        have HWN := Lib.hid (show memK l (fun j => (j : Int)) n = runL l (fun j => (j : Int)) by rw [HN.out]; exact memK_all l _)
        have HSM := Lib.hid (show ∀ e ∈ l, e.fr < 4 from fun e he => by
          obtain ⟨i, hi, rfl⟩ := List.getElem_of_mem he
          have h := hsm3 i (by have := HN.out; omega)
          unfold small nt at h
          rw [List.getElem?_eq_getElem hi] at h
          exact h)
        clear hm3 hb3 hsm3 HM2 B2'
        obtain ⟨WW, hWW⟩ : ∃ WW, memK l (fun j => (j : Int)) n = WW := ⟨_, rfl⟩
        rw [hWW] at HW3 HWN
        clear hWW
        go_wp2_with fail
        go_loopw [5, 10, 11] (fun s5 s10 s11 wr => ∃ (m : Nat) (ar : Option Addr) (nr cr : Nat) (rest : List Ent) (g5 c5 : Nat) (M : Nat → Int), m + nr ≤ 8 ∧ s11 = .int .i64 m ∧ s10 = .slice ar nr cr ∧ s5 = .slice (some ⟨g5, 0, none⟩) 2048 c5 ∧ Rd w WW ar nr cr rest g5 M wr ∧ Below w3.heap.size w3 wr) (fun _ s10 _ _ => lenS s10)
        case atStart => exact ⟨0, ao, n, cap, l, w1.heap.size, 2048, _, by omega, rfl, rfl, rfl, ⟨HN.out, hcap, HCAP2.out, HE.out.below B3.out, HO.out, HCH.out, HSM.out, HM3.out, HWN.out.symm, B3.out⟩, Below.refl _ _⟩
        case round =>
          obtain ⟨m, ar, nr, cr, rest, g5, c5, M, hmn, rfl, rfl, rfl, hrd, hbr⟩ := hrel
          have HR := Lib.hid hrd; have HBR := Lib.hid hbr
          clear hrd hbr
          by_cases hnr : 0 < nr
          · have hm8 : decide (8 < (m : Int)) = false := by simp; omega
            have hm8' : decide (8 < m) = false := by simp; omega
            have hnr8 : nr ≤ 8 := by omega
            go_wp2_with fail
            clear hm8 hm8'
            refine mays_loop _ _ _ _ _ _ _ _ _ _ _ _ _ _ _ _ _ _ _ _ _ _ _ _ _ _ _ _ _ _ _ _ _ _ _ _ _ _ _ _ _ _ _ _ _ _ _ _ _ _ _ _ _ _ _ _ _ _ _ _ _ _ _ _ _ _ _ _ _ _ _ _ _ _ _ _ _ _ _ _ _ _ _ _ _ _ _ _ _ _ _ _ _ _ _ _ _ _ _ _ _ _ _ _ _ _ _ _ _ _ _ _ _ _ _ _ _ _ _ _ _ _ _ _ _ _ _ _ _ _ _ _ _ _ _ _ _ _ _ _ _ _ _ _ ar nr cr rest _ hnr8 HR.out.cap (Lib.hid HR.out.capm) (Lib.hid HR.out.len) (Lib.hid (HK.out.below HR.out.be)) (Lib.hid HR.out.ents) (Lib.hid HR.out.oks) (Lib.hid ?_)
            intro vm v13 v75 v76 v77 v78 v79 v80 v81 v82 v83 v84 v85 w4 how4 hb4
            have hsome := mays_some HR.out.chk hnr HR.out.len
            obtain ⟨gm, cmm, hvm, hcm⟩ := own_nums how4 hsome
            subst hvm
            have HCM := Lib.hid hcm
            have HB4 := Lib.hid hb4
            have HMEM := Lib.hid (fun j hj => mays_mem (l := rest) (k := nr) (j := j) hj)
            have hmle := mays_le rest nr
            obtain ⟨ms, hms⟩ : ∃ ms, mays rest nr = ms := ⟨_, rfl⟩
            rw [hms] at HCM hsome HMEM hmle ⊢
            clear how4 hb4 hcm hms
            obtain ⟨ml, hml⟩ : ∃ ml, ms.length = ml := ⟨_, rfl⟩
            have HML := Lib.hid hml
            rw [hml] at hsome hmle ⊢
            clear hml
            have B4 := Lib.hid (HR.out.be.trans (HB4.out.mono HR.out.be.size))
            have hml0 : ((ml : Int) == 0) = false := by simp; omega
            have hml0' : (ml == 0) = false := by simp; omega
            go_upto_if 91 with fail
            go_cut [14] from 66 to 130 (fun s14 wx => (∃ Pn : Nat, Pn ≤ 65535 ∧ s14 = .int .i64 Pn) ∧ wx = w4)
            case first =>
              by_cases hnp0 : 0 < np
              · obtain ⟨pb, po, rfl, pc⟩ := (HP.out.below B4.out) (m % np) (Nat.mod_lt _ hnp0)
                have hlt : m % np < np := Nat.mod_lt _ hnp0
                have hmk := mask (Pv (m % np))
                obtain ⟨X, hX⟩ : ∃ X, bits BinOp.and IntKind.i64 (Pv (m % np)) 65535 = X := ⟨_, rfl⟩
                have HX := Lib.hid hX
                rw [hX] at hmk
                clear hX
                go_wp2_with fail
                go_meet
                case rel => exact ⟨⟨X.toNat, by omega, by rw [HX.out, show ((X.toNat : Nat) : Int) = X by omega]⟩, rfl⟩
              · have hnp0' : decide (0 < (np : Int)) = false := by simp; omega
                have hnp0'' : decide (0 < np) = false := by simpa using hnp0
                go_wp2_with fail
                go_meet
                case rel => exact ⟨⟨0, by omega, rfl⟩, rfl⟩
            case rest =>
              obtain ⟨⟨Pn, hPn, rfl⟩, rfl⟩ := hcut
              clear hml0 hml0'
              have hidx : Pn % ml < ml := Nat.mod_lt _ hsome
              have hcK := HCM.out (Pn % ml) (by have := HML.out; omega)
              obtain ⟨K, hK⟩ : ∃ K : Nat, (ms[Pn % ml]'(by have := HML.out; omega)) = K := ⟨_, rfl⟩
              have hKm := HMEM.out K (hK ▸ List.getElem_mem _)
              rw [hK] at hcK
              clear hK HCM HMEM
              obtain ⟨hKn, hKmay⟩ := hKm
              have HKF := Lib.hid (mayAt_free hKmay).2
              clear hKmay
              obtain ⟨br, offr, har, _⟩ := HR.out.ents 0 (by have := HR.out.len; omega)
              subst har
              have HB4r := HB4
              go_wp2_with fail
              refine (take_yes br offr cr rest nr K _ HR.out.len HR.out.cap HR.out.capm (HK.out.below B4.out) (HR.out.ents.below HB4.out) HR.out.oks hKn HR.out.chk HKF.out).mono ?_
              intro ε w5 hp
              obtain ⟨ax, cx, rfl, g1, g2, g3, hE5, hb5⟩ := hp
              have B5 := Lib.hid (B4.out.trans (hb5.mono B4.out.size))
              have HB5 := Lib.hid (HB4.out.trans (hb5.mono HB4.out.size))
              have hxl := takeL_len (l := rest) (K := K) (by have := HR.out.len; omega)
              have HXC := Lib.hid (check_takeL (K := K) HR.out.chk (by have := HR.out.len; omega))
              have HXS := Lib.hid (show ∀ e ∈ takeL rest K, e.fr < 4 from fun e he => HR.out.sm e (takeL_sub he))
              have HXO := Lib.hid (show Oks (takeL rest K) from fun e he => HR.out.oks e (takeL_sub he))
              have HXR := Lib.hid (own_take (K := K) HR.out.chk (by have := HR.out.len; omega) HKF.out HR.out.sm M)
              have HEO := Lib.hid (HR.out.oks.at (i := K) (by have := HR.out.len; omega))
              rw [← HR.out.len] at hxl
              obtain ⟨xs, hxs⟩ : ∃ xs, takeL rest K = xs := ⟨_, rfl⟩
              rw [hxs] at g1 hE5 hxl HXC HXS HXO HXR ⊢
              clear hxs
              obtain ⟨nx, hnx⟩ : ∃ nx, xs.length = nx := ⟨_, rfl⟩
              have HNX := Lib.hid hnx
              rw [hnx] at g1 hxl ⊢
              have HE5 := Lib.hid hE5; have G1 := Lib.hid g1; have G2 := Lib.hid g2
              clear hE5 g1 g2 g3 hb5 hnx
              have hge : decide (nr ≤ nx) = false := by simp; omega
              have B6 := Lib.hid (B5.out.alloc B5.out.size (.cells (rowE (nt rest K)) 31 (0, 0)))
              have HB6 := Lib.hid (HB5.out.trans ((Below.refl w5.heap.size w5).alloc (Nat.le_refl _) (.cells (rowE (nt rest K)) 31 (0, 0)) |>.mono HB5.out.size))
              have HG6 := Lib.hid (show (w5.alloc (.cells (rowE (nt rest K)) 31 (0, 0))).heap[w5.heap.size]? = some (.cells (rowE (nt rest K)) 31 (0, 0)) from heap_alloc_new _ _)
              have HE6 := Lib.hid (HE5.out.below ((Below.refl w5.heap.size w5).alloc (Nat.le_refl _) (.cells (rowE (nt rest K)) 31 (0, 0))))
              go_wp2_with fail
              refine (check_ok ax cx xs nx _ HNX.out.symm (by have := G1.out; have := G2.out; omega) (HK.out.below B6.out) HE6.out HXO.out).mono ?_
              rw [HXC.out]
              rintro ε w7 ⟨rfl, hb7⟩
              have B7 := Lib.hid (B6.out.trans (hb7.mono B6.out.size))
              have HB7 := Lib.hid (HB6.out.trans (hb7.mono HB6.out.size))
              have HG7 := Lib.hid (show w7.heap[w5.heap.size]? = some (.cells (rowE (nt rest K)) 31 (0, 0)) from (hb7.block w5.heap.size (by simp)).trans HG6.out)
              have HE7 := Lib.hid (HE6.out.below hb7)
              have HM7 := Lib.hid (HR.out.mem.below HB7.out)
              clear hb7
              obtain ⟨q0, q1, q2, q3, q4⟩ := blk5 HG7.out
              go_wp2_with fail
              refine (put_ok g5 c5 M (nt rest K) _ HM7.out HEO.out).mono ?_
              intro ε w8 hp
              obtain ⟨g8, c8, rfl, _, _, hms8, hb8⟩ := hp
              have B8 := Lib.hid (B7.out.trans (hb8.mono B7.out.size))
              have HB8 := Lib.hid (HB7.out.trans (hb8.mono HB7.out.size))
              have HMS8 := Lib.hid hms8
              have HE8 := Lib.hid (HE7.out.below hb8)
              clear hms8 hb8 q0 q1 q2 q3 q4
              go_wp2_with fail
              go_roundw
              case rel => exact ⟨m + 1, ax, nx, cx, xs, g8, c8, _, by omega, by go_num, rfl, rfl, ⟨HNX.out.symm, G1.out, G2.out, HE8.out, HXO.out, HXC.out, HXS.out, HMS8.out, HXR.out.trans HR.out.run, B8.out⟩, HBR.out.trans (HB8.out.mono HBR.out.size)⟩
              case measure => simp [lenS]; omega
          · obtain rfl : nr = 0 := by omega
            have HMW := Lib.hid (show M = WW by
              have h := HR.out.run
              rw [List.length_eq_zero_iff.1 HR.out.len.symm] at h
              exact h)
            have H5 := Lib.hid (show Ms wr g5 WW from HMW.out ▸ HR.out.mem)
            have H7 := Lib.hid (HW3.out.below HBR.out)
            go_wp2_with fail
            refine same_loop _ _ _ _ _ _ _ _ _ _ _ _ _ _ _ _ _ _ _ _ _ _ _ _ _ _ _ _ _ _ _ _ _ _ _ _ _ _ _ _ _ _ _ _ _ _ _ _ _ _ _ _ _ _ _ _ _ _ _ _ _ _ _ _ _ _ _ _ _ _ _ _ _ _ _ _ _ _ _ _ _ _ _ _ _ _ _ _ _ _ _ _ _ _ _ _ _ _ _ _ _ _ _ _ _ _ _ _ _ _ _ _ _ _ _ _ _ _ _ _ _ _ _ _ _ _ _ _ _ _ _ _ _ _ _ _ _ _ _ _ _ _ _ _ g5 c5 g7 c7 WW w _ H5 H7 (Lib.hid HR.out.be) (Lib.hid ?_)
            intro v4 v18 v133 v134 v135 v136 v137 v138 v139 v140 v141 v142 v143 v144 v145 w6 hb6
            have B1 := Lib.hid hb6
            clear hb6
            go_wp2_with fail
            refine (wakes_ok _ (HK.out.below B1.out)).mono ?_
            rintro ε w9 ⟨rfl, hb9⟩
            have B9 := Lib.hid (B1.out.trans (hb9.mono B1.out.size))
            clear hb9
            go_wp2_with fail
            go_ret
            exact ⟨rfl, B9.out⟩
      · intro v7 v9 v43 v44 v45 v46 v47 v48 v49 v50 v51 v52 v53 v54 v55 v56 v57 v58 v59 v60 v61 v62 v63 v64 w3 hb3
        have B3 := Lib.hid (B2'.out.trans (hb3.mono B2'.out.size))
        clear hb3
        go_wp2_with fail
        go_ret
        exact ⟨rfl, B3.out⟩

theorem ints_of {H : Type} {enc : TypeId × Value → H} {w : World} {v : Value} {d : DataW H} {ps : List MemPlace} {r : Reach} {b0 : Nat} (hv : Value.okWide Tryd.prog w r b0 23 v) (h : DataW.Trod enc Tryd.prog w 0 (fun _ => true) true 23 v d ps) :
    ∃ (ap : Option Addr) (np cp : Nat) (Pv : Nat → Int), v = .slice ap np cp ∧ np ≤ 9223372036854775807 ∧ Ints w ap np Pv := by
  obtain ⟨ao, len, cap, rfl⟩ := okWide_slice Tryd.underlying23 hv
  obtain ⟨fuel, hf⟩ := h
  rcases open_ints Tryd.underlying23 Tryd.underlying3 c3 hf with ⟨hcs, hx⟩ | ⟨a, len', cap', zs, hcs, _, hl, hm, hz, hx, hcell, hwz⟩
  · simp [Value.cells] at hcs
    obtain ⟨rfl, rfl, rfl⟩ := hcs
    exact ⟨none, 0, 0, fun _ => 0, rfl, by omega, fun j hj => absurd hj (Nat.not_lt_zero _)⟩
  · simp [Value.cells] at hcs
    obtain ⟨rfl, rfl, rfl⟩ := hcs
    have hzl : len ≤ zs.length := by rw [hz]; split <;> omega
    refine ⟨some a, len, cap, fun j => zs.getD j 0, rfl, by unfold maxLen at hm; omega, fun j hj => ?_⟩
    obtain ⟨b, off, rfl, hc⟩ := ints_at hcell (by omega)
    exact ⟨b, off, rfl, hc j (by omega)⟩

namespace bufferOwn
theorem laid : laidOutB Tryd.prog = true := by kernel_rfl
theorem own : ownKnob Tryd.prog.godebug = none := by kernel_rfl
set_option maxRecDepth 100000 in
theorem lifted (os : Os) (started : os.Started) (H : Type) (enc : TypeId × Value → H) :
    ReturnsInHanded {} Tryd.checked os 3 .any (fun w args => (Rows.bufferOwnSpec.pre enc Tryd.prog Tryd.f3 [] false w args ∧ laidMetH Tryd.prog laidK w) ∧ sizedMet enc Tryd.prog Tryd.f3 (OpenSpec.ofChange Rows.bufferOwnSpec) false w args)
      (Rows.bufferOwnSpec.post enc Tryd.prog Tryd.f3 false true false false) := by
  refine returnsInHanded_of_change_and (C := Tryd.checked) (X := fun w _ => laidMetH Tryd.prog laidK w) (fun _ _ _ hh h => h.of_heap hh) own started (by kernel_rfl) Tryd.func3
    (ChangeSpec.witness_shaped (enc := enc) (C := Tryd.checked) (os := os) (X := fun w _ => laidMetH Tryd.prog laidK w) false (World.doorLaid Tryd.prog 18 os) #[.slice none 0 0, .slice none 0 0] 8 rfl (World.shaped_of_RefB (by kernel_rfl) (by kernel_rfl)) (by kernel_rfl) (by kernel_rfl) (by kernel_rfl) (door_met os _)) ?_
  intro W base args ds gs before hval0 hW _ _ hL _
  have hval : ∀ (j : Nat) t v, Tryd.f3.params[j]? = some t → args[j]? = some v → Value.okWide Tryd.prog W .any base t v := hval0
  have hW' := hW
  obtain ⟨p, q, hA0, hV, rfl, hfz, hnd⟩ := hW
  have hA : DataW.TrodAll enc Tryd.prog W 0 (fun _ => true) true Tryd.f3.params.toList args.toList ds p := hA0
  rw [Tryd.params3] at hA hval
  obtain ⟨v0, vs0, d0, ds0, p0, q0, hargs, rfl, rfl, h0, r0⟩ := trodAll_cons hA
  obtain ⟨v1, vs1, d1, ds1, p1, q1, rfl, rfl, rfl, h1, r1⟩ := trodAll_cons r0
  obtain ⟨rfl, rfl, rfl⟩ := trodAll_nil r1
  obtain rfl : args = #[v0, v1] := by cases args; simp_all
  obtain ⟨rfl, rfl⟩ := trodVars_none hV
  obtain ⟨ao, n, cap, l, rfl, hn, hc, hcc, hz, he, ho⟩ := ents_of (hval 0 22 v0 rfl rfl) h0
  obtain ⟨ap, np, cp, Pv, rfl, hnp, hpv⟩ := ints_of (hval 1 23 v1 rfl rfl) h1
  have hk := kinds_of hL
  refine (own_walk ao cap l n ap np cp Pv W hn hc hcc hnp hk he ho hpv).mono fun e W' ⟨he, hg⟩ => ?_
  subst he
  exact ⟨_, rfl, law_post laid hW' rfl (by decide +kernel) rfl rfl Tryd.underlying4 hg⟩

theorem over : Rows.bufferOwnRow.holds Tryd.pinned (OpenSpec.ofChange Rows.bufferOwnSpec) :=
  OpenClaim.holds_of_wide 3 Tryd.f3 rfl rfl rfl rfl rfl rfl rfl ⟨rfl, rfl, rfl, rfl, rfl⟩ rfl rfl rfl rfl rfl (by kernel_rfl) Tryd.func3 (by kernel_rfl)
    (of_decide_eq_true (by kernel_rfl)) (by unfold Func.isWrapper; first | (rw [if_pos (by decide +kernel)]; kernel_rfl) | (rw [if_neg (by decide +kernel)]; exact ⟨rfl, rfl⟩))
    (fun os started H enc _ => lifted os started H enc)
end bufferOwn

/-- THE STATEMENT: the tied card. -/
theorem bufferOwn_proved : Rows.BufferOwnCardSaid :=
  Claim7.holds_tied_plain_at .later [] [.data] true (true, "1812fa4e4427ba4c974eeeffb4956a9f2b328edb398a7e572adffd0c6ab5d111") false
    bufferOwn.over (fun _ h => by cases h) (by kernel_rfl) (fun _ h => by cases h) bufferOwn_row_tie rfl ⟨rfl, rfl⟩ (by kernel_rfl) rfl
    (fun f fn hf hfn => by
      obtain rfl : f = 3 := Option.some.inj ((show Tryd.prog.funcNamed "tenement/tenementlaw09.BufferOwn" = some 3 by kernel_rfl).symm.trans hf) |>.symm
      obtain rfl : fn = Tryd.f3 := (Option.some.inj (Tryd.func3.symm.trans hfn)).symm
      exact ⟨by kernel_rfl, fun j t ht => by
        rw [Tryd.params3] at ht
        have hm : t ∈ [22, 23] := by simpa using Array.mem_of_getElem? ht
        have hall : ([22, 23].all fun u => !Tryd.prog.wantsStandIn u) = true := by kernel_rfl
        exact (show Tryd.prog.wantsStandIn t = false by simpa using List.all_eq_true.1 hall t hm)⟩)
    (by kernel_rfl)
#print axioms bufferOwn_proved
end Go.Proofs.YtdmcmpbappjdoaaDoor
