/- AsidApart: none is seen twice. -/
import Derived.Test.YtbdphbkpglhhaaaB0
namespace Go.Proofs.Ytbdphbkpglhhaaa
open Go.ChangeShapes Go.WideShapes Go.ChangeAt Go.RowKit
set_option linter.unusedVariables false

set_option maxHeartbeats 1000000 in
set_option maxRecDepth 100000 in
theorem seen_loop (Q : Exit → Act → World → Prop) (c1 c2 c3 c4 c6 c7 c8 c9 c10 c11 c12 c13 c14 c15 c16 c17 c18 c19 c20 c21 c22 c23 c24 c27 c28 c29 c30 c31 c32 c33 c34 c35 c36 c37 c38 c39 c40 c41 c42 c43 c44 c45 c46 c47 c48 c49 c50 c51 c52 c53 c54 c55 c56 c57 c58 c59 c60 c61 c62 c63 c64 c65 c66 c67 c68 c69 c70 c71 c72 c73 c74 c75 c76 c77 c78 c79 c80 c81 c82 c83 c84 c85 c86 c87 c88 c89 c90 c91 c92 c93 c94 c95 c96 c97 c98 c99 c100 c101 c102 c103 c104 c105 c106 c107 c108 c109 c110 c111 c112 c113 c114 c115 c116 c117 c118 c119 c120 c121 c122 c123 c124 c125 c126 c127 c128 c129 c130 c131 c132 c133 c134 c135 c136 c137 c138 c139 c140 c141 c142 c143 c144 c145 c146 c147 c148 c149 c150 c151 c152 c153 c154 c155 c156 c157 c158 c159 c160 c161 c162 c163 c164 c165 c166 c167 c168 c169 c170 c171 c172 c173 c174 c175 c176 c177 c178 c179 c180 c181 c182 c183 c184 c185 c186 c187 c188 c189 c190 c191 c192 c193 c194 : Value) (w0 : World) (b d N z : Nat) (age : Int) (g ow : Nat → Int) (w : World)
    (hN : N ≤ 16) (hbz : b < z) (hdz : d < z) (h0z : w0.heap.size ≤ z) (HI : Hid (Inj N g))
    (HFa : Hid (Fr w0 b d N age g ow w)) (HZa : Hid (w.heap[z]? = some (arr17 39 fun _ => .bool false)))
    (hexit : Hid (∀ (u4 u26 u27 u28 u165 u166 u167 u168 u169 u170 u171 u172 u173 u174 u175 u176 u177 u178 u179 u180 u181 u182 u183 u184 u185 u186 u187 u188 u189 u190 u191 u192 : Value) (w' : World), Fr w0 b d N age g ow w' → Q (.exit 10) ⟨List.toArray (.int .i64 N :: c1 :: c2 :: c3 :: u4 :: .pointer (some ⟨b, 0, none⟩) :: c6 :: c7 :: c8 :: c9 :: c10 :: c11 :: c12 :: c13 :: c14 :: c15 :: c16 :: c17 :: c18 :: c19 :: c20 :: c21 :: c22 :: c23 :: c24 :: .pointer (some ⟨z, 0, none⟩) :: u26 :: u27 :: u28 :: c29 :: c30 :: c31 :: c32 :: c33 :: c34 :: c35 :: c36 :: c37 :: c38 :: c39 :: c40 :: c41 :: c42 :: c43 :: c44 :: c45 :: c46 :: c47 :: c48 :: c49 :: c50 :: c51 :: c52 :: c53 :: c54 :: c55 :: c56 :: c57 :: c58 :: c59 :: c60 :: c61 :: c62 :: c63 :: c64 :: c65 :: c66 :: c67 :: c68 :: c69 :: c70 :: c71 :: c72 :: c73 :: c74 :: c75 :: c76 :: c77 :: c78 :: c79 :: c80 :: c81 :: c82 :: c83 :: c84 :: c85 :: c86 :: c87 :: c88 :: c89 :: c90 :: c91 :: c92 :: c93 :: c94 :: c95 :: c96 :: c97 :: c98 :: c99 :: c100 :: c101 :: c102 :: c103 :: c104 :: c105 :: c106 :: c107 :: c108 :: c109 :: c110 :: c111 :: c112 :: c113 :: c114 :: c115 :: c116 :: c117 :: c118 :: c119 :: c120 :: c121 :: c122 :: c123 :: c124 :: c125 :: c126 :: c127 :: c128 :: c129 :: c130 :: c131 :: c132 :: c133 :: c134 :: c135 :: c136 :: c137 :: c138 :: c139 :: c140 :: c141 :: c142 :: c143 :: c144 :: c145 :: c146 :: c147 :: c148 :: c149 :: c150 :: c151 :: c152 :: c153 :: c154 :: c155 :: c156 :: c157 :: c158 :: c159 :: c160 :: c161 :: c162 :: c163 :: c164 :: u165 :: u166 :: u167 :: u168 :: u169 :: u170 :: u171 :: u172 :: u173 :: u174 :: u175 :: u176 :: u177 :: u178 :: u179 :: u180 :: u181 :: u182 :: u183 :: u184 :: u185 :: u186 :: u187 :: u188 :: u189 :: u190 :: u191 :: u192 :: c193 :: c194 :: []), []⟩ w')) :
    Code.wp Try.prog (lp 5) Q ⟨List.toArray (.int .i64 N :: c1 :: c2 :: c3 :: c4 :: .pointer (some ⟨b, 0, none⟩) :: c6 :: c7 :: c8 :: c9 :: c10 :: c11 :: c12 :: c13 :: c14 :: c15 :: c16 :: c17 :: c18 :: c19 :: c20 :: c21 :: c22 :: c23 :: c24 :: .pointer (some ⟨z, 0, none⟩) :: .int .i64 1 :: c27 :: c28 :: c29 :: c30 :: c31 :: c32 :: c33 :: c34 :: c35 :: c36 :: c37 :: c38 :: c39 :: c40 :: c41 :: c42 :: c43 :: c44 :: c45 :: c46 :: c47 :: c48 :: c49 :: c50 :: c51 :: c52 :: c53 :: c54 :: c55 :: c56 :: c57 :: c58 :: c59 :: c60 :: c61 :: c62 :: c63 :: c64 :: c65 :: c66 :: c67 :: c68 :: c69 :: c70 :: c71 :: c72 :: c73 :: c74 :: c75 :: c76 :: c77 :: c78 :: c79 :: c80 :: c81 :: c82 :: c83 :: c84 :: c85 :: c86 :: c87 :: c88 :: c89 :: c90 :: c91 :: c92 :: c93 :: c94 :: c95 :: c96 :: c97 :: c98 :: c99 :: c100 :: c101 :: c102 :: c103 :: c104 :: c105 :: c106 :: c107 :: c108 :: c109 :: c110 :: c111 :: c112 :: c113 :: c114 :: c115 :: c116 :: c117 :: c118 :: c119 :: c120 :: c121 :: c122 :: c123 :: c124 :: c125 :: c126 :: c127 :: c128 :: c129 :: c130 :: c131 :: c132 :: c133 :: c134 :: c135 :: c136 :: c137 :: c138 :: c139 :: c140 :: c141 :: c142 :: c143 :: c144 :: c145 :: c146 :: c147 :: c148 :: c149 :: c150 :: c151 :: c152 :: c153 :: c154 :: c155 :: c156 :: c157 :: c158 :: c159 :: c160 :: c161 :: c162 :: c163 :: c164 :: c165 :: c166 :: c167 :: c168 :: c169 :: c170 :: c171 :: c172 :: c173 :: c174 :: c175 :: c176 :: c177 :: c178 :: c179 :: c180 :: c181 :: c182 :: c183 :: c184 :: c185 :: c186 :: c187 :: c188 :: c189 :: c190 :: c191 :: c192 :: c193 :: c194 :: []), []⟩ w := by
  conv => arg 2; whnf
  go_loopw [26] (fun i wr => ∃ q : Nat, 1 ≤ q ∧ q ≤ 7 ∧ i = .int .i64 q ∧ Fr w0 b d N age g ow wr ∧ wr.heap[z]? = some (arr17 39 fun j => .bool (seenF N g q j))) (fun i _ => 7 - (intOf i).toNat)
  case atStart => exact ⟨1, by omega, by omega, rfl, HFa.out, HZa.out.trans (congrArg (fun F => some (arr17 39 F)) (funext fun j => congrArg Value.bool (seen_zero N _ j).symm))⟩
  case round =>
    obtain ⟨q, hq1, hq2, rfl, hf9, hy9⟩ := hrel
    have HF9 := Lib.hid hf9; have HY9 := Lib.hid hy9
    clear hf9 hy9
    by_cases hq7 : q < 7
    · have HQ6 := Lib.hid (show 1 ≤ (q : Int) ∧ (q : Int) ≤ 6 by omega)
      cases hgood : ofB N g q
      · have HA0 := Lib.hid (show ofA N g q = 0 by simpa [ofB] using hgood)
        go_wp2_with fail
        refine (of_ok b N _ _ q _ HF9.out.gi hN).mono ?_
        rw [hgood]
        rintro e w' ⟨rfl, rfl⟩
        go_wp2_with fail
        go_roundw
        case rel => exact ⟨q + 1, by omega, by omega, by go_num, HF9.out, HY9.out.trans (congrArg (fun F => some (arr17 39 F)) (funext fun j => congrArg Value.bool (by have := seen_no HQ6.out HA0.out j; simpa using this)))⟩
        case measure => simp [intOf]; omega
      · have hA0 : ofA N g q ≠ 0 := by simpa [ofB] using hgood
        have HA0 := Lib.hid hA0
        obtain ⟨m1, m2, _, _, _⟩ := ofA_some hA0
        have m3 : decide ((ofA N g q : Int) < 1) = false := by simp; omega
        have m4 : decide ((N : Int) < (ofA N g q : Int)) = false := by simp; omega
        have hc := arr17_cell HY9.out (ofA N g q) (by omega)
        rw [seen_not hA0] at hc
        have hz := arr17_free HY9.out (ofA N g q)
        clear hA0
        go_wp2_with fail
        refine (of_ok b N _ _ q _ HF9.out.gi hN).mono ?_
        rw [hgood]
        rintro e w' ⟨rfl, rfl⟩
        go_wp2_with fail
        go_roundw
        case rel => exact ⟨q + 1, by omega, by omega, by go_num, ⟨HF9.out.gi.other (d := z) (by omega) _ _, set_block (d := z) HF9.out.ow (by omega) _ _, HF9.out.be.setCell (p := ⟨z, ofA N g q, none⟩) h0z _⟩, (arr17_put Value.bool HY9.out _ (by omega) true).trans (congrArg (fun F => some (arr17 39 F)) (funext fun j => congrArg Value.bool (by have := seen_yes HI.out HA0.out j; simpa using this)))⟩
        case measure => simp [intOf]; omega
    · obtain rfl : q = 7 := by omega
      go_wp2_with fail
      exact hexit.out _ _ _ _ _ _ _ _ _ _ _ _ _ _ _ _ _ _ _ _ _ _ _ _ _ _ _ _ _ _ _ _ _ HF9.out
end Go.Proofs.Ytbdphbkpglhhaaa
