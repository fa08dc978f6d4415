/- Statement AsidApart of layer 17: the law returns true at every input, and every argument reads as before. No conditions. -/
import Derived.Test.YtbdphbkpglhhaaaB5
import Derived.Test.YtbdphbkpglhhaaaB6
import Derived.Test.YtbdphbkpglhhaaaPost
namespace Go.Proofs.Ytbdphbkpglhhaaa
open Go.ChangeShapes Go.WideShapes Go.ChangeAt Go.RowKit
set_option linter.unusedVariables false

set_option maxHeartbeats 1000000 in
set_option maxRecDepth 100000 in
theorem apart_walk (n : Int) (ao : Option Addr) (len cap : Nat) (K S : Nat → Int) (RA : Nat → Option Addr) (RL RC : Nat → Nat) (RV : Nat → Nat → Int) (w : World) (hcap : len ≤ 9223372036854775807) (ha : Acts w ao len K S RA RL RC RV) :
    Calls Try.prog 3 #[.int .i64 n, .slice ao len cap] w fun e w' => e = .returned (.bool true) ∧ Below w.heap.size w w' := by
  have HA := Lib.hid ha
  clear ha
  by_cases hn : n < 2 ∨ 16 < n
  · have HN := Lib.hid hn
    clear hn
    go_enter Try.func3, Try.ntmps3
    go_wp2_with fail
    refine (new_bad n _ HN.out).mono ?_
    rintro e w1 ⟨rfl, rfl⟩
    go_wp2_with fail
    refine (wakes_ok _).mono ?_
    rintro e w8 ⟨rfl, hb8⟩
    have B8 := Lib.hid hb8
    clear hb8
    go_wp2_with fail
    go_ret
    exact ⟨rfl, B8.out⟩
  · obtain ⟨N, rfl⟩ : ∃ N : Nat, n = N := ⟨n.toNat, by omega⟩
    have hN2 : 2 ≤ N := by omega
    have hN : N ≤ 16 := by omega
    clear hn
    go_enter Try.func3, Try.ntmps3
    go_wp2_with fail
    refine (new_ok N _ (by omega) (by omega)).mono ?_
    rintro e w1 ⟨b, rfl, hm, hb, hB, hlt⟩
    have M1 := Lib.hid hm; have HB := Lib.hid hb; have B1 := Lib.hid hB
    have HA1 := Lib.hid (show Acts w1 ao len K S RA RL RC RV from fun k hk => by
      obtain ⟨x, y, e, a⟩ := HA.out k hk
      exact ⟨x, y, e, a.below hB⟩)
    clear hm hb hB
    go_wp2_with fail
    refine (great_ok ao len cap K S RA RL RC RV _ hcap HA1.out).mono ?_
    rintro e w' ⟨G, rfl, hG, rfl⟩
    have HG := Lib.hid hG
    clear hG
    cases G
    · obtain ⟨h200, h20⟩ := HG.out rfl
      have H20 := Lib.hid h20
      clear HG h20
      go_wp2_with fail
      have F0 := Lib.hid (show Fr w b w1.heap.size N 1 (fun _ => 0) (fun _ => 0) (w1.alloc (arr17 29 fun _ => .int .i64 0)) from ⟨M1.out.alloc _, heap_alloc_new _ _, B1.out.alloc B1.out.size _⟩)
      have hbe1 := B1.out.size
      have hbd : b < w1.heap.size := hlt
      have hwd : w.heap.size ≤ b := by have := HB.out; omega
      go_loopw [43] (fun i wr => ∃ (k : Nat) (g ow : Nat → Int) (age : Int), k ≤ len ∧ i = .int .i64 k ∧ Fr w b w1.heap.size N age g ow wr ∧ 0 ≤ age ∧ age ≤ k + 1 ∧ Inj N g ∧ Own N g ow) (fun i _ => len - (intOf i).toNat)
      case atStart => exact ⟨0, _, _, 1, by omega, rfl, F0.out, by omega, by omega, ⟨fun i j _ _ _ _ _ h => absurd rfl h, fun _ _ _ => ⟨Int.le_refl 0, by show (0 : Int) ≤ 6; omega⟩⟩, fun j _ _ h => absurd rfl h⟩
      case round =>
        obtain ⟨k, g, ow, age, hk, rfl, hf, hage0, hage1, hinj, hown⟩ := hrel
        have HF := Lib.hid hf; have HI := Lib.hid hinj; have HO := Lib.hid hown
        clear hf hinj hown
        by_cases hlk : k < len
        · cases hK : (K k == 1)
          · refine ask_round _ _ _ _ _ _ _ _ _ _ _ _ _ _ _ _ _ _ _ _ _ _ _ _ _ _ _ _ _ _ _ _ _ _ _ _ _ _ _ _ _ _ _ _ _ _ _ _ _ _ _ _ _ _ _ _ _ _ _ _ _ _ _ _ _ _ _ _ _ _ _ _ _ _ _ _ _ _ _ _ _ _ _ _ _ _ _ _ _ _ _ _ _ _ _ _ _ _ _ _ _ _ _ _ _ _ _ _ _ _ _ _ _ _ _ _ _ _ _ _ _ _ _ _ _ _ _ _ _ _ _ _ _ _ _ _ _ _ _ _ _ _ _ _ _ _ _ _ _ _ _ _ _ _ _ _ _ _ _ _ _ _ _ _ _ _ _ _ _ _ _ _ _ _ _ _ _ _ _ _ _ _ _ _ _ _ _ _ _ _ _ w b w1.heap.size N ao len cap k K S RA RL RC RV age g ow _ hN hbd hwd hbe1 hlk hage0 hage1 (by omega) hcap H20 HA (Lib.hid hK) HI HO HF (Lib.hid ?_)
            intro v4 v9 v10 v11 v12 v13 v14 v16 v17 v18 v19 v20 v21 v22 v23 v24 v25 v26 v27 v28 v44 v45 v46 v47 v48 v49 v50 v51 v52 v53 v54 v55 v56 v57 v58 v59 v60 v61 v62 v63 v64 v65 v66 v67 v68 v69 v70 v71 v72 v73 v74 v75 v76 v77 v78 v79 v80 v81 v82 v83 v84 v85 v86 v87 v88 v89 v90 v91 v92 v93 v94 v95 v96 v97 v98 v99 v100 v101 v102 v103 v104 v105 v106 v107 v108 v109 v110 v111 v112 v113 v114 v115 v116 v117 v118 v119 v120 v121 v122 v123 v124 v125 v126 v127 v128 v129 v130 v131 v132 v133 v134 v135 v136 v137 v138 v139 v140 v141 v142 v143 v144 v145 v146 v147 v148 v149 v150 v151 v152 v153 v154 v155 v156 v157 v158 v159 v160 v161 v162 v163 v164 v165 v166 v167 v168 v169 v170 v171 v172 v173 v174 v175 v176 v177 v178 v179 v180 v181 v182 v183 v184 v185 v186 v187 v188 v189 v190 v191 v192 v193 g' ow' age' wk hf' ha0 ha1 hi' ho'
            go_roundw
            case rel => exact ⟨k + 1, g', ow', age', by omega, by go_num, hf', ha0, ha1, hi', ho'⟩
            case measure => simp [intOf]; omega
          · refine gone_round _ _ _ _ _ _ _ _ _ _ _ _ _ _ _ _ _ _ _ _ _ _ _ _ _ _ _ _ _ _ _ _ _ _ _ _ _ _ _ _ _ _ _ _ _ _ _ _ _ _ _ _ _ _ _ _ _ _ _ _ _ _ _ _ _ _ _ _ _ _ _ _ _ _ _ _ _ _ _ _ _ _ _ _ _ _ _ _ _ _ _ _ _ _ _ _ _ _ _ _ _ _ _ _ _ _ _ _ _ _ _ _ _ _ _ _ _ _ _ _ _ _ _ _ _ _ _ _ _ _ _ _ _ _ _ _ _ _ _ _ _ _ _ _ _ _ _ _ _ _ _ _ _ _ _ _ _ _ _ _ _ _ _ _ _ _ _ _ _ _ _ _ _ _ _ _ _ _ _ _ _ _ _ _ _ _ _ _ _ _ _ w b w1.heap.size N ao len cap k K S RA RL RC RV age g ow _ hN hbd hwd hbe1 hlk hage0 hage1 (by omega) hcap H20 HA (Lib.hid hK) HI HO HF (Lib.hid ?_)
            intro v4 v9 v10 v11 v12 v13 v14 v16 v17 v18 v19 v20 v21 v22 v23 v24 v25 v26 v27 v28 v44 v45 v46 v47 v48 v49 v50 v51 v52 v53 v54 v55 v56 v57 v58 v59 v60 v61 v62 v63 v64 v65 v66 v67 v68 v69 v70 v71 v72 v73 v74 v75 v76 v77 v78 v79 v80 v81 v82 v83 v84 v85 v86 v87 v88 v89 v90 v91 v92 v93 v94 v95 v96 v97 v98 v99 v100 v101 v102 v103 v104 v105 v106 v107 v108 v109 v110 v111 v112 v113 v114 v115 v116 v117 v118 v119 v120 v121 v122 v123 v124 v125 v126 v127 v128 v129 v130 v131 v132 v133 v134 v135 v136 v137 v138 v139 v140 v141 v142 v143 v144 v145 v146 v147 v148 v149 v150 v151 v152 v153 v154 v155 v156 v157 v158 v159 v160 v161 v162 v163 v164 v165 v166 v167 v168 v169 v170 v171 v172 v173 v174 v175 v176 v177 v178 v179 v180 v181 v182 v183 v184 v185 v186 v187 v188 v189 v190 v191 v192 v193 g' ow' age' wk hf' ha0 ha1 hi' ho'
            go_roundw
            case rel => exact ⟨k + 1, g', ow', age', by omega, by go_num, hf', ha0, ha1, hi', ho'⟩
            case measure => simp [intOf]; omega
        · go_wp2_with fail
          refine (wakes_ok _).mono ?_
          rintro e w8 ⟨rfl, hb8⟩
          have B8 := Lib.hid hb8
          clear hb8
          go_wp2_with fail
          go_ret
          exact ⟨rfl, HF.out.be.trans (B8.out.mono HF.out.be.size)⟩
    · clear HG
      go_wp2_with fail
      refine (wakes_ok _).mono ?_
      rintro e w8 ⟨rfl, hb8⟩
      have B8 := Lib.hid hb8
      clear hb8
      go_wp2_with fail
      go_ret
      exact ⟨rfl, B1.out.trans (B8.out.mono B1.out.size)⟩

namespace asidApart
theorem laid : laidOutB Try.prog = true := by kernel_rfl
theorem own : ownKnob Try.prog.godebug = none := by kernel_rfl
theorem lifted (os : Os) (started : os.Started) (H : Type) (enc : TypeId × Value → H) :
    ReturnsInHanded {} Try.checked os 3 .any (Rows.asidApartSpec.pre6 enc Try.prog Try.f3 Rows.asidApartRow.domain false) (Rows.asidApartSpec.post enc Try.prog Try.f3 false true false false) := by
  refine returnsInHanded_of_change (C := Try.checked) own started (by kernel_rfl) Try.func3
    (ChangeSpec.witness6 (enc := enc) (C := Try.checked) false ⟨#[], #[.int .i64 0, .slice none 0 0], []⟩ 8 (by kernel_rfl) (by kernel_rfl) (by kernel_rfl) (by kernel_rfl)) ?_
  intro W base args ds gs before hval0 hW hcnd _
  have hval : ∀ (j : Nat) t v, Try.f3.params[j]? = some t → args[j]? = some v → Value.okWide Try.prog W .any base t v := hval0
  have hW' := hW
  obtain ⟨p, q, hA0, hV, rfl, hfz, hnd⟩ := hW
  have hA : DataW.TrodAll enc Try.prog W 0 (fun _ => true) true Try.f3.params.toList args.toList ds p := hA0
  rw [Try.params3] at hA hval
  obtain ⟨v0, vs0, d0, ds0, p0, q0, hargs, rfl, rfl, h0, r0⟩ := trodAll_cons hA
  obtain ⟨v1, vs1, d1, ds1, p1, q1, rfl, rfl, rfl, h1, r1⟩ := trodAll_cons r0
  obtain ⟨rfl, rfl, rfl⟩ := trodAll_nil r1
  obtain rfl : args = #[v0, v1] := by cases args; simp_all
  obtain ⟨rfl, rfl⟩ := trodVars_none hV
  obtain ⟨n, rfl, rfl, rfl, w0⟩ := open_int Try.underlying3 (hval 0 3 v0 rfl rfl) h0
  obtain ⟨ao, len, cap, K, S, RA, RL, RC, RV, rfl, hlen, hacts⟩ := acts_of (hval 1 22 v1 rfl rfl) h1
  refine (apart_walk n ao len cap K S RA RL RC RV W hlen hacts).mono fun e W' ⟨he, hg⟩ => ?_
  subst he
  exact ⟨_, rfl, law_post laid hW' rfl (by decide +kernel) rfl rfl Try.underlying4 hg⟩

theorem over : Rows.asidApartRow.holds Try.pinned (OpenSpec.ofChange Rows.asidApartSpec) :=
  OpenClaim.holds_of_wide 3 Try.f3 rfl rfl rfl rfl rfl rfl rfl ⟨rfl, rfl, rfl, rfl, rfl⟩ rfl rfl rfl rfl rfl (by kernel_rfl) Try.func3 (by kernel_rfl)
    (of_decide_eq_true (by kernel_rfl)) (by unfold Func.isWrapper; first | (rw [if_pos (by decide +kernel)]; kernel_rfl) | (rw [if_neg (by decide +kernel)]; exact ⟨rfl, rfl⟩))
    (fun os started H enc _ => lifted os started H enc)
end asidApart

/-- THE STATEMENT. -/
theorem asidApart_proved : Rows.AsidApartSaid := asidApart.over
#print axioms asidApart_proved
end Go.Proofs.Ytbdphbkpglhhaaa
