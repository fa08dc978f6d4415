/- AsidApart: a round that asks. -/
import Derived.Test.YtbdphbkpglhhaaaB1
import Derived.Test.YtbdphbkpglhhaaaB2
import Derived.Test.YtbdphbkpglhhaaaB3
import Derived.Test.YtbdphbkpglhhaaaB4
import Derived.Deep.Cut
import Derived.Deep.CutRange
namespace Go.Proofs.Ytbdphbkpglhhaaa
open Go.ChangeShapes Go.WideShapes Go.ChangeAt Go.RowKit
set_option linter.unusedVariables false

set_option maxHeartbeats 1000000 in
set_option maxRecDepth 100000 in
theorem ask_round (Kc : Act → World → Prop) (Q : Exit → Act → World → Prop) (c1 c2 c3 c4 c6 c8 c9 c10 c11 c12 c13 c14 c15 c16 c17 c18 c19 c20 c21 c22 c23 c24 c25 c26 c27 c28 c29 c30 c31 c32 c33 c34 c35 c36 c37 c38 c39 c40 c44 c45 c46 c47 c48 c49 c50 c51 c52 c53 c54 c55 c56 c57 c58 c59 c60 c61 c62 c63 c64 c65 c66 c67 c68 c69 c70 c71 c72 c73 c74 c75 c76 c77 c78 c79 c80 c81 c82 c83 c84 c85 c86 c87 c88 c89 c90 c91 c92 c93 c94 c95 c96 c97 c98 c99 c100 c101 c102 c103 c104 c105 c106 c107 c108 c109 c110 c111 c112 c113 c114 c115 c116 c117 c118 c119 c120 c121 c122 c123 c124 c125 c126 c127 c128 c129 c130 c131 c132 c133 c134 c135 c136 c137 c138 c139 c140 c141 c142 c143 c144 c145 c146 c147 c148 c149 c150 c151 c152 c153 c154 c155 c156 c157 c158 c159 c160 c161 c162 c163 c164 c165 c166 c167 c168 c169 c170 c171 c172 c173 c174 c175 c176 c177 c178 c179 c180 c181 c182 c183 c184 c185 c186 c187 c188 c189 c190 c191 c192 c193 c194 : Value) (w : World) (b d N : Nat) (ao : Option Addr) (len cap k : Nat) (K S : Nat → Int) (RA : Nat → Option Addr) (RL RC : Nat → Nat) (RV : Nat → Nat → Int) (age : Int) (g ow : Nat → Int) (wr : World)
    (hN : N ≤ 16) (hbd : b < d) (hwd : w.heap.size ≤ b) (hbe1 : w.heap.size ≤ d) (hlk : k < len) (hage0 : 0 ≤ age) (hage1 : age ≤ k + 1) (h200 : len ≤ 200) (hcap : len ≤ 9223372036854775807) (H20 : Hid (∀ k, k < len → RL k ≤ 20)) (HA : Hid (Acts w ao len K S RA RL RC RV)) (HK : Hid ((K k == 1) = false)) (HI : Hid (Inj N g)) (HO : Hid (Own N g ow)) (HF : Hid (Fr w b d N age g ow wr))
    (hK : Hid (∀ (u4 u9 u10 u11 u12 u13 u14 u16 u17 u18 u19 u20 u21 u22 u23 u24 u25 u26 u27 u28 u44 u45 u46 u47 u48 u49 u50 u51 u52 u53 u54 u55 u56 u57 u58 u59 u60 u61 u62 u63 u64 u65 u66 u67 u68 u69 u70 u71 u72 u73 u74 u75 u76 u77 u78 u79 u80 u81 u82 u83 u84 u85 u86 u87 u88 u89 u90 u91 u92 u93 u94 u95 u96 u97 u98 u99 u100 u101 u102 u103 u104 u105 u106 u107 u108 u109 u110 u111 u112 u113 u114 u115 u116 u117 u118 u119 u120 u121 u122 u123 u124 u125 u126 u127 u128 u129 u130 u131 u132 u133 u134 u135 u136 u137 u138 u139 u140 u141 u142 u143 u144 u145 u146 u147 u148 u149 u150 u151 u152 u153 u154 u155 u156 u157 u158 u159 u160 u161 u162 u163 u164 u165 u166 u167 u168 u169 u170 u171 u172 u173 u174 u175 u176 u177 u178 u179 u180 u181 u182 u183 u184 u185 u186 u187 u188 u189 u190 u191 u192 u193 : Value) (g' ow' : Nat → Int) (age' : Int) (w' : World), Fr w b d N age' g' ow' w' → 0 ≤ age' → age' ≤ k + 1 + 1 → Inj N g' → Own N g' ow' → Kc ⟨List.toArray (.int .i64 N :: c1 :: c2 :: c3 :: u4 :: .pointer (some ⟨b, 0, none⟩) :: c6 :: .pointer (some ⟨d, 0, none⟩) :: c8 :: u9 :: u10 :: u11 :: u12 :: u13 :: u14 :: c15 :: u16 :: u17 :: u18 :: u19 :: u20 :: u21 :: u22 :: u23 :: u24 :: u25 :: u26 :: u27 :: u28 :: c29 :: c30 :: c31 :: c32 :: c33 :: c34 :: c35 :: c36 :: c37 :: c38 :: c39 :: c40 :: .slice ao len cap :: .int .i64 len :: .int .i64 (↑k + 1) :: u44 :: u45 :: u46 :: u47 :: u48 :: u49 :: u50 :: u51 :: u52 :: u53 :: u54 :: u55 :: u56 :: u57 :: u58 :: u59 :: u60 :: u61 :: u62 :: u63 :: u64 :: u65 :: u66 :: u67 :: u68 :: u69 :: u70 :: u71 :: u72 :: u73 :: u74 :: u75 :: u76 :: u77 :: u78 :: u79 :: u80 :: u81 :: u82 :: u83 :: u84 :: u85 :: u86 :: u87 :: u88 :: u89 :: u90 :: u91 :: u92 :: u93 :: u94 :: u95 :: u96 :: u97 :: u98 :: u99 :: u100 :: u101 :: u102 :: u103 :: u104 :: u105 :: u106 :: u107 :: u108 :: u109 :: u110 :: u111 :: u112 :: u113 :: u114 :: u115 :: u116 :: u117 :: u118 :: u119 :: u120 :: u121 :: u122 :: u123 :: u124 :: u125 :: u126 :: u127 :: u128 :: u129 :: u130 :: u131 :: u132 :: u133 :: u134 :: u135 :: u136 :: u137 :: u138 :: u139 :: u140 :: u141 :: u142 :: u143 :: u144 :: u145 :: u146 :: u147 :: u148 :: u149 :: u150 :: u151 :: u152 :: u153 :: u154 :: u155 :: u156 :: u157 :: u158 :: u159 :: u160 :: u161 :: u162 :: u163 :: u164 :: u165 :: u166 :: u167 :: u168 :: u169 :: u170 :: u171 :: u172 :: u173 :: u174 :: u175 :: u176 :: u177 :: u178 :: u179 :: u180 :: u181 :: u182 :: u183 :: u184 :: u185 :: u186 :: u187 :: u188 :: u189 :: u190 :: u191 :: u192 :: u193 :: c194 :: []), []⟩ w')) :
    Code.wp Try.prog body0 (Exit.then Kc Q) ⟨List.toArray (.int .i64 N :: c1 :: c2 :: c3 :: c4 :: .pointer (some ⟨b, 0, none⟩) :: c6 :: .pointer (some ⟨d, 0, none⟩) :: c8 :: c9 :: c10 :: c11 :: c12 :: c13 :: c14 :: c15 :: c16 :: c17 :: c18 :: c19 :: c20 :: c21 :: c22 :: c23 :: c24 :: c25 :: c26 :: c27 :: c28 :: c29 :: c30 :: c31 :: c32 :: c33 :: c34 :: c35 :: c36 :: c37 :: c38 :: c39 :: c40 :: .slice ao len cap :: .int .i64 len :: .int .i64 k :: c44 :: c45 :: c46 :: c47 :: c48 :: c49 :: c50 :: c51 :: c52 :: c53 :: c54 :: c55 :: c56 :: c57 :: c58 :: c59 :: c60 :: c61 :: c62 :: c63 :: c64 :: c65 :: c66 :: c67 :: c68 :: c69 :: c70 :: c71 :: c72 :: c73 :: c74 :: c75 :: c76 :: c77 :: c78 :: c79 :: c80 :: c81 :: c82 :: c83 :: c84 :: c85 :: c86 :: c87 :: c88 :: c89 :: c90 :: c91 :: c92 :: c93 :: c94 :: c95 :: c96 :: c97 :: c98 :: c99 :: c100 :: c101 :: c102 :: c103 :: c104 :: c105 :: c106 :: c107 :: c108 :: c109 :: c110 :: c111 :: c112 :: c113 :: c114 :: c115 :: c116 :: c117 :: c118 :: c119 :: c120 :: c121 :: c122 :: c123 :: c124 :: c125 :: c126 :: c127 :: c128 :: c129 :: c130 :: c131 :: c132 :: c133 :: c134 :: c135 :: c136 :: c137 :: c138 :: c139 :: c140 :: c141 :: c142 :: c143 :: c144 :: c145 :: c146 :: c147 :: c148 :: c149 :: c150 :: c151 :: c152 :: c153 :: c154 :: c155 :: c156 :: c157 :: c158 :: c159 :: c160 :: c161 :: c162 :: c163 :: c164 :: c165 :: c166 :: c167 :: c168 :: c169 :: c170 :: c171 :: c172 :: c173 :: c174 :: c175 :: c176 :: c177 :: c178 :: c179 :: c180 :: c181 :: c182 :: c183 :: c184 :: c185 :: c186 :: c187 :: c188 :: c189 :: c190 :: c191 :: c192 :: c193 :: c194 :: []), []⟩ wr := by
  conv => arg 2; whnf
  have hK1 := HK.out
  obtain ⟨ab, off, rfl, a⟩ := HA.out k hlk
  have a' := a.below HF.out.be
  have c0 := a'.c0
  have c1 := a'.c1
  have c2 := a'.c2
  have HAk := Lib.hid a'
  have hl := H20.out k hlk
  have hwx := HF.out.be.size
  have hdx := heap_lt HF.out.ow
  clear a a'
  have HX := Lib.hid (show (wr.alloc (actb (K k) (S k) (RA k) (RL k) (RC k))).heap[wr.heap.size]? = some (actb (K k) (S k) (RA k) (RL k) (RC k)) from heap_alloc_new _ _)
  have HGa := Lib.hid (HF.out.gi.alloc (actb (K k) (S k) (RA k) (RL k) (RC k)))
  have HOa := Lib.hid (alloc_block HF.out.ow (actb (K k) (S k) (RA k) (RL k) (RC k)))
  have HEa := Lib.hid (HF.out.be.alloc HF.out.be.size (actb (K k) (S k) (RA k) (RL k) (RC k)))
  have hsza : (wr.alloc (actb (K k) (S k) (RA k) (RL k) (RC k))).heap.size = wr.heap.size + 1 := by simp
  have HSZ := Lib.hid hsza
  clear hsza
  go_wp2_with fail
  clear c0 c1 c2
  have HX1 := Lib.hid (alloc_block HX.out (arr17 29 fun _ => .int .i64 0))
  have HF1 := Lib.hid (show Fr w b d N age g ow ((wr.alloc (actb (K k) (S k) (RA k) (RL k) (RC k))).alloc (arr17 29 fun _ => .int .i64 0)) from ⟨HGa.out.alloc _, alloc_block HOa.out _, HEa.out.alloc HEa.out.size _⟩)
  have HY1 := Lib.hid (show ((wr.alloc (actb (K k) (S k) (RA k) (RL k) (RC k))).alloc (arr17 29 fun _ => .int .i64 0)).heap[wr.heap.size + 1]? = some (arr17 29 fun _ => .int .i64 0) from by rw [← HSZ.out]; exact heap_alloc_new _ _)
  clear HX HGa HOa HEa HSZ hK1
  have HACT := Lib.hid (show ∀ w', Below w.heap.size w w' → Run w' (RA k) (RL k) (RV k) from fun w' hb => by
    obtain ⟨ab', off', e, a⟩ := HA.out k hlk
    cases e
    exact (a.below hb).toRun)
  clear HAk
  obtain ⟨wo, rfl⟩ : ∃ wo : World, wo = wr := ⟨_, rfl⟩
  refine kept_loop _ _ _ _ _ _ _ _ _ _ _ _ _ _ _ _ _ _ _ _ _ _ _ _ _ _ _ _ _ _ _ _ _ _ _ _ _ _ _ _ _ _ _ _ _ _ _ _ _ _ _ _ _ _ _ _ _ _ _ _ _ _ _ _ _ _ _ _ _ _ _ _ _ _ _ _ _ _ _ _ _ _ _ _ _ _ _ _ _ _ _ _ _ _ _ _ _ _ _ _ _ _ _ _ _ _ _ _ _ _ _ _ _ _ _ _ _ _ _ _ _ _ _ _ _ _ _ _ _ _ _ _ _ _ _ _ _ _ _ _ _ _ _ _ _ _ _ _ _ _ _ _ _ _ _ _ _ _ _ _ _ _ _ _ _ _ _ _ _ _ _ _ _ _ _ _ _ _ _ _ _ _ _ _ _ _ _ _ _ _ _ _ w b d N wo.heap.size (wo.heap.size + 1) age g ow (K k) (S k) (RA k) (RL k) (RC k) (RV k) _ hN hl (by omega) (by omega) (by omega) (by omega) HACT HI HF1 HX1 HY1 (Lib.hid ?_)
  intro v12 v13 v14 v16 v67 v68 v69 v70 v71 v72 v73 v74 v75 v76 v77 v78 v79 v80 v81 v82 v83 v84 v85 v86 v87 v88 v89 v90 v91 v92 v93 wk hf3 hx3 hy3
  have HF3 := Lib.hid hf3; have HX3 := Lib.hid hx3; have HY3 := Lib.hid hy3
  clear hf3 hx3 hy3 HF1 HX1 HY1
  obtain ⟨e0, e1, e2⟩ := actb_c HX3.out
  go_wp2_with fail
  refine (age_ok b N age g _ HF3.out.gi).mono ?_
  rintro e w' ⟨rfl, rfl⟩
  go_wp2_with fail
  refine (ask_any b N age g (S k) (RA k) (RL k) (RC k) (RV k) _ HF3.out.gi hN hl (HACT.out _ HF3.out.be) hage0 (by omega)).mono ?_
  rintro e w3 ⟨rfl, hg5, hgr5⟩
  have HG5 := Lib.hid hg5
  have hwx5 := HF3.out.be.size
  have HF5 := Lib.hid (show Fr w b d N (askT N g (S k) (RV k) (RL k) age) (askG N g (S k) (RV k) (RL k)) ow w3 from ⟨hg5, only_block hgr5 HF3.out.ow (by omega), below_only HF3.out.be hgr5 hwd (by omega)⟩)
  have HX5 := Lib.hid (only_block hgr5 HX3.out (by omega))
  obtain ⟨kk, hkk⟩ : ∃ kk, kk = kp N g (RV k) (RL k) 7 0 := ⟨_, rfl⟩
  have HY5 := Lib.hid (show w3.heap[wo.heap.size + 1]? = some (arr17 29 fun j => .int .i64 (kk j)) from by rw [hkk]; exact only_block hgr5 HY3.out (by omega))
  have hsz5 : wo.heap.size + 1 < w3.heap.size := heap_lt HY5.out
  clear hg5 hgr5 HX3 HY3 HF3 e0 e1 e2
  have ht := askT_bd' N g (S k) (RV k) (RL k) age
  cases hE : (askE N g (S k) (RV k) (RL k) != 0)
  · have hE0 : askE N g (S k) (RV k) (RL k) = 0 := by simpa using hE
    have AP := Lib.hid (apart_ok HI.out HO.out hN (S k) (RV k) (RL k) hE0)
    rw [← hkk] at AP
    clear hkk
    have l1 := AP.out.lo
    have l2 := AP.out.hi
    have l3 : decide ((askA N g (S k) (RV k) (RL k) : Int) < 1) = false := by simp; omega
    have l4 : decide ((N : Int) < (askA N g (S k) (RV k) (RL k) : Int)) = false := by simp; omega
    clear hE0
    have hT2 : ((askT N g (S k) (RV k) (RL k) age) == age + 1) = askF N g (S k) (RV k) (RL k) := by
      unfold askT
      cases askF N g (S k) (RV k) (RL k)
      · simp; omega
      · simp
    go_wp2_with fail
    refine (age_ok b N _ _ _ HG5.out).mono ?_
    rintro e w' ⟨rfl, rfl⟩
    go_upto_if 124 with fail
    clear hT2
    go_cut [19] from 44 to 193 (fun s19 wx => ∃ ow' : Nat → Int, Fr w b d N (askT N g (S k) (RV k) (RL k) age) (askG N g (S k) (RV k) (RL k)) ow' wx ∧ wx.heap[wo.heap.size]? = some (actb (K k) (S k) (RA k) (RL k) (RC k)) ∧ wx.heap[wo.heap.size + 1]? = some (arr17 29 fun j => .int .i64 (kk j)) ∧ Apart N g ow (S k) (RV k) (RL k) kk ow')
    case first =>
      cases hFl : askF N g (S k) (RV k) (RL k)
      · have AP2 := AP.out
        rw [hFl, if_neg (by simp)] at AP2
        have APH := Lib.hid AP2
        clear AP2
        go_wp2_with fail
        go_meet
        case rel => exact ⟨ow, HF5.out, HX5.out, HY5.out, APH.out⟩
      · have AP2 := AP.out
        rw [hFl, if_pos rfl] at AP2
        have APH := Lib.hid AP2
        clear AP2
        go_wp2_with (first | (refine wpList_load_row rfl 29 (.tmp 11) rfl (wo.heap.size + 1) rfl 29 (row17 kk) (0, 0) _ HY5.out Try.underlying29 rfl (by kernel_rfl) ?_) | (refine wpList_store_row rfl 29 (.tmp 7) (.tmp 125) rfl d (row17 kk) rfl rfl 29 _ HF5.out.ow (by kernel_rfl) rfl (row17_one kk) ?_))
        go_meet
        case rel => exact ⟨kk, row_fr HF5.out hbd hbe1, row_block HX5.out (by omega), row_block HY5.out (by omega), APH.out⟩
    case rest =>
      obtain ⟨ow', hf6, hx6, hy6, hap⟩ := hcut
      have HF6 := Lib.hid hf6; have HX6 := Lib.hid hx6; have HY6 := Lib.hid hy6; have APH := Lib.hid hap
      have hown := hap.own
      clear hf6 hx6 hy6 hap HF5 HX5 HY5 HG5 AP
      obtain ⟨wz, rfl⟩ : ∃ wz : World, wz = wc := ⟨_, rfl⟩
      go_upto_region 34 with fail
      go_cut [137] from 44 to 193 (fun s wx => s = .bool false ∧ ∃ n, wx = wz.drewN n)
      case first =>
        obtain ⟨f0, f1, f2⟩ := actb_c HX6.out
        have hoc := arr17_cell HF6.out.ow (askA N g (S k) (RV k) (RL k)) (by omega)
        cases hz0 : (ow' (askA N g (S k) (RV k) (RL k)) != 0)
        · go_quiet (fail)
          go_wp2_with fail
          go_meet
          case rel => exact ⟨rfl, nq, rfl⟩
        · have hz1 : (ow' (askA N g (S k) (RV k) (RL k)) != S k) = false := by
            rcases hown with h | h
            · simp [h] at hz0
            · simp [h]
          go_quiet (fail)
          go_wp2_with fail
          go_meet
          case rel => exact ⟨rfl, nq, rfl⟩
      case rest =>
        obtain ⟨rfl, nq, rfl⟩ := hcut
        have HF7 := Lib.hid (HF6.out.drewN nq)
        have HX7 := Lib.hid (show (wz.drewN nq).heap[wo.heap.size]? = some (actb (K k) (S k) (RA k) (RL k) (RC k)) from HX6.out)
        have HY7 := Lib.hid (show (wz.drewN nq).heap[wo.heap.size + 1]? = some (arr17 29 fun j => .int .i64 (kk j)) from HY6.out)
        clear HF6 HX6 HY6 hown
        obtain ⟨w7, hw7⟩ : ∃ w7, wz.drewN nq = w7 := ⟨_, rfl⟩
        rw [hw7] at HF7 HX7 HY7 ⊢
        clear hw7
        have hz := arr17_free HF7.out.ow (askA N g (S k) (RV k) (RL k))
        have hoc := arr17_cell HF7.out.ow (askA N g (S k) (RV k) (RL k)) (by omega)
        have HF8 := Lib.hid (show Fr w b d N (askT N g (S k) (RV k) (RL k) age) (askG N g (S k) (RV k) (RL k)) (fun j => if j = askA N g (S k) (RV k) (RL k) then S k else ow' j) (w7.setCell ⟨d, askA N g (S k) (RV k) (RL k), none⟩ (.int .i64 (S k))) from ⟨HF7.out.gi.other (by omega) _ _, arr17_put (Value.int .i64) HF7.out.ow _ (by omega) (S k), HF7.out.be.setCell (by show w.heap.size ≤ d; omega) _⟩)
        have HY8 := Lib.hid (set_block (d := d) HY7.out (by omega) (askA N g (S k) (RV k) (RL k)) (.int .i64 (S k)))
        obtain ⟨f0, f1, f2⟩ := actb_c HX7.out
        go_wp2_with (refine wpList_load_row rfl 29 (.tmp 11) rfl (wo.heap.size + 1) rfl 29 (row17 kk) (0, 0) _ HY8.out Try.underlying29 rfl (by kernel_rfl) ?_)
        clear HF7 HX7 HY7 hz hoc f0 f1 f2 HY8
        obtain ⟨w8, hw8⟩ : ∃ w8, w7.setCell ⟨d, askA N g (S k) (RV k) (RL k), none⟩ (.int .i64 (S k)) = w8 := ⟨_, rfl⟩
        rw [hw8] at HF8 ⊢
        clear hw8
        refine stay_loop _ _ _ _ _ _ _ _ _ _ _ _ _ _ _ _ _ _ _ _ _ _ _ _ _ _ _ _ _ _ _ _ _ _ _ _ _ _ _ _ _ _ _ _ _ _ _ _ _ _ _ _ _ _ _ _ _ _ _ _ _ _ _ _ _ _ _ _ _ _ _ _ _ _ _ _ _ _ _ _ _ _ _ _ _ _ _ _ _ _ _ _ _ _ _ _ _ _ _ _ _ _ _ _ _ _ _ _ _ _ _ _ _ _ _ _ _ _ _ _ _ _ _ _ _ _ _ _ _ _ _ _ _ _ _ _ _ _ _ _ _ _ _ _ _ _ _ _ _ _ _ _ _ _ _ _ _ _ _ _ _ _ _ _ _ _ _ _ _ _ _ _ _ _ _ _ _ _ _ _ _ _ _ _ _ _ _ _ _ _ _ _ _ b N _ (askG N g (S k) (RV k) (RL k)) kk _ hN (Lib.hid HF8.out.gi) (Lib.hid APH.out.stays) (Lib.hid ?_)
        intro v4 v21 v22 v23 v24 v143 v144 v145 v146 v147 v148 v149 v150 v151 v152 v153 v154 v155 v156 v157 v158 v159 v160 v161 v162 v163 v164 
        have HFa := Lib.hid (show Fr w b d N (askT N g (S k) (RV k) (RL k) age) (askG N g (S k) (RV k) (RL k)) (fun j => if j = askA N g (S k) (RV k) (RL k) then S k else ow' j) (w8.alloc (arr17 39 fun _ => .bool false)) from ⟨HF8.out.gi.alloc _, alloc_block HF8.out.ow _, HF8.out.be.alloc HF8.out.be.size _⟩)
        have HZa := Lib.hid (show (w8.alloc (arr17 39 fun _ => .bool false)).heap[w8.heap.size]? = some (arr17 39 fun _ => .bool false) from heap_alloc_new _ _)
        have hs8 : d < w8.heap.size := heap_lt HF8.out.ow
        go_wp2_with fail
        refine seen_loop _ _ _ _ _ _ _ _ _ _ _ _ _ _ _ _ _ _ _ _ _ _ _ _ _ _ _ _ _ _ _ _ _ _ _ _ _ _ _ _ _ _ _ _ _ _ _ _ _ _ _ _ _ _ _ _ _ _ _ _ _ _ _ _ _ _ _ _ _ _ _ _ _ _ _ _ _ _ _ _ _ _ _ _ _ _ _ _ _ _ _ _ _ _ _ _ _ _ _ _ _ _ _ _ _ _ _ _ _ _ _ _ _ _ _ _ _ _ _ _ _ _ _ _ _ _ _ _ _ _ _ _ _ _ _ _ _ _ _ _ _ _ _ _ _ _ _ _ _ _ _ _ _ _ _ _ _ _ _ _ _ _ _ _ _ _ _ _ _ _ _ _ _ _ _ _ _ _ _ _ _ _ _ _ _ _ _ _ _ _ _ _ w b d N w8.heap.size _ (askG N g (S k) (RV k) (RL k)) _ _ hN (by omega) hs8 (by omega) (Lib.hid APH.out.inj) HFa HZa (Lib.hid ?_)
        intro v4 v26 v27 v28 v165 v166 v167 v168 v169 v170 v171 v172 v173 v174 v175 v176 v177 v178 v179 v180 v181 v182 v183 v184 v185 v186 v187 v188 v189 v190 v191 v192 wk hf9
        have HF9 := Lib.hid hf9
        clear hf9
        go_wp2_with fail
        exact hK.out _ _ _ _ _ _ _ _ _ _ _ _ _ _ _ _ _ _ _ _ _ _ _ _ _ _ _ _ _ _ _ _ _ _ _ _ _ _ _ _ _ _ _ _ _ _ _ _ _ _ _ _ _ _ _ _ _ _ _ _ _ _ _ _ _ _ _ _ _ _ _ _ _ _ _ _ _ _ _ _ _ _ _ _ _ _ _ _ _ _ _ _ _ _ _ _ _ _ _ _ _ _ _ _ _ _ _ _ _ _ _ _ _ _ _ _ _ _ _ _ _ _ _ _ _ _ _ _ _ _ _ _ _ _ _ _ _ _ _ _ _ _ _ _ _ _ _ _ _ _ _ _ _ _ _ _ _ _ _ _ _ _ _ _ _ _ _ _ _ _ _ _ _ _ HF9.out (by omega) (by omega) APH.out.inj APH.out.next
  · have hE0 : askE N g (S k) (RV k) (RL k) ≠ 0 := by simpa using hE
    have HG6 := Lib.hid (ask_not hE0)
    clear hkk
    clear hE0
    go_wp2_with fail
    exact hK.out _ _ _ _ _ _ _ _ _ _ _ _ _ _ _ _ _ _ _ _ _ _ _ _ _ _ _ _ _ _ _ _ _ _ _ _ _ _ _ _ _ _ _ _ _ _ _ _ _ _ _ _ _ _ _ _ _ _ _ _ _ _ _ _ _ _ _ _ _ _ _ _ _ _ _ _ _ _ _ _ _ _ _ _ _ _ _ _ _ _ _ _ _ _ _ _ _ _ _ _ _ _ _ _ _ _ _ _ _ _ _ _ _ _ _ _ _ _ _ _ _ _ _ _ _ _ _ _ _ _ _ _ _ _ _ _ _ _ _ _ _ _ _ _ _ _ _ _ _ _ _ _ _ _ _ _ _ _ _ _ _ _ _ _ _ _ _ _ _ _ _ _ _ _ (⟨HG6.out ▸ HF5.out.gi, HF5.out.ow, HF5.out.be⟩) (by omega) (by omega) (HI.out) (HO.out)
end Go.Proofs.Ytbdphbkpglhhaaa
