/- AsidApart: who is gone is an owner no more. -/
import Derived.Test.YtbdphbkpglhhaaaB0
namespace Go.Proofs.Ytbdphbkpglhhaaa
open Go.ChangeShapes Go.WideShapes Go.ChangeAt Go.RowKit
set_option linter.unusedVariables false

set_option maxHeartbeats 1000000 in
set_option maxRecDepth 100000 in
theorem wipe_loop (Q : Exit → Act → World → Prop) (c0 c1 c2 c3 c4 c5 c6 c8 c10 c11 c12 c13 c14 c15 c16 c17 c18 c19 c20 c21 c22 c23 c24 c25 c26 c27 c28 c29 c30 c31 c32 c33 c34 c35 c36 c37 c38 c39 c40 c41 c42 c43 c44 c45 c46 c47 c48 c49 c50 c51 c52 c53 c54 c56 c57 c58 c59 c60 c61 c62 c63 c64 c65 c66 c67 c68 c69 c70 c71 c72 c73 c74 c75 c76 c77 c78 c79 c80 c81 c82 c83 c84 c85 c86 c87 c88 c89 c90 c91 c92 c93 c94 c95 c96 c97 c98 c99 c100 c101 c102 c103 c104 c105 c106 c107 c108 c109 c110 c111 c112 c113 c114 c115 c116 c117 c118 c119 c120 c121 c122 c123 c124 c125 c126 c127 c128 c129 c130 c131 c132 c133 c134 c135 c136 c137 c138 c139 c140 c141 c142 c143 c144 c145 c146 c147 c148 c149 c150 c151 c152 c153 c154 c155 c156 c157 c158 c159 c160 c161 c162 c163 c164 c165 c166 c167 c168 c169 c170 c171 c172 c173 c174 c175 c176 c177 c178 c179 c180 c181 c182 c183 c184 c185 c186 c187 c188 c189 c190 c191 c192 c193 c194 : Value) (w0 : World) (b d N x : Nat) (age : Int) (g ow : Nat → Int) (K S : Int) (ra : Option Addr) (rl rc : Nat) (w : World)
    (hbd : b < d) (hdx : d < x) (h0d : w0.heap.size ≤ d)
    (HF1 : Hid (Fr w0 b d N age g ow w)) (HX1 : Hid (w.heap[x]? = some (actb K S ra rl rc)))
    (hexit : Hid (∀ (u10 u55 u56 u57 u58 u59 u60 u61 u62 u63 u64 u65 u66 : Value) (w' : World), Fr w0 b d N age g (fun j => if j < 17 ∧ ow j = S then 0 else ow j) w' → Q (.exit 2) ⟨List.toArray (c0 :: c1 :: c2 :: c3 :: c4 :: c5 :: c6 :: .pointer (some ⟨d, 0, none⟩) :: c8 :: .pointer (some ⟨x, 0, none⟩) :: u10 :: c11 :: c12 :: c13 :: c14 :: c15 :: c16 :: c17 :: c18 :: c19 :: c20 :: c21 :: c22 :: c23 :: c24 :: c25 :: c26 :: c27 :: c28 :: c29 :: c30 :: c31 :: c32 :: c33 :: c34 :: c35 :: c36 :: c37 :: c38 :: c39 :: c40 :: c41 :: c42 :: c43 :: c44 :: c45 :: c46 :: c47 :: c48 :: c49 :: c50 :: c51 :: c52 :: c53 :: c54 :: u55 :: u56 :: u57 :: u58 :: u59 :: u60 :: u61 :: u62 :: u63 :: u64 :: u65 :: u66 :: c67 :: c68 :: c69 :: c70 :: c71 :: c72 :: c73 :: c74 :: c75 :: c76 :: c77 :: c78 :: c79 :: c80 :: c81 :: c82 :: c83 :: c84 :: c85 :: c86 :: c87 :: c88 :: c89 :: c90 :: c91 :: c92 :: c93 :: c94 :: c95 :: c96 :: c97 :: c98 :: c99 :: c100 :: c101 :: c102 :: c103 :: c104 :: c105 :: c106 :: c107 :: c108 :: c109 :: c110 :: c111 :: c112 :: c113 :: c114 :: c115 :: c116 :: c117 :: c118 :: c119 :: c120 :: c121 :: c122 :: c123 :: c124 :: c125 :: c126 :: c127 :: c128 :: c129 :: c130 :: c131 :: c132 :: c133 :: c134 :: c135 :: c136 :: c137 :: c138 :: c139 :: c140 :: c141 :: c142 :: c143 :: c144 :: c145 :: c146 :: c147 :: c148 :: c149 :: c150 :: c151 :: c152 :: c153 :: c154 :: c155 :: c156 :: c157 :: c158 :: c159 :: c160 :: c161 :: c162 :: c163 :: c164 :: c165 :: c166 :: c167 :: c168 :: c169 :: c170 :: c171 :: c172 :: c173 :: c174 :: c175 :: c176 :: c177 :: c178 :: c179 :: c180 :: c181 :: c182 :: c183 :: c184 :: c185 :: c186 :: c187 :: c188 :: c189 :: c190 :: c191 :: c192 :: c193 :: c194 :: []), []⟩ w')) :
    Code.wp Try.prog (lp 1) Q ⟨List.toArray (c0 :: c1 :: c2 :: c3 :: c4 :: c5 :: c6 :: .pointer (some ⟨d, 0, none⟩) :: c8 :: .pointer (some ⟨x, 0, none⟩) :: c10 :: c11 :: c12 :: c13 :: c14 :: c15 :: c16 :: c17 :: c18 :: c19 :: c20 :: c21 :: c22 :: c23 :: c24 :: c25 :: c26 :: c27 :: c28 :: c29 :: c30 :: c31 :: c32 :: c33 :: c34 :: c35 :: c36 :: c37 :: c38 :: c39 :: c40 :: c41 :: c42 :: c43 :: c44 :: c45 :: c46 :: c47 :: c48 :: c49 :: c50 :: c51 :: c52 :: c53 :: c54 :: .int .i64 0 :: c56 :: c57 :: c58 :: c59 :: c60 :: c61 :: c62 :: c63 :: c64 :: c65 :: c66 :: c67 :: c68 :: c69 :: c70 :: c71 :: c72 :: c73 :: c74 :: c75 :: c76 :: c77 :: c78 :: c79 :: c80 :: c81 :: c82 :: c83 :: c84 :: c85 :: c86 :: c87 :: c88 :: c89 :: c90 :: c91 :: c92 :: c93 :: c94 :: c95 :: c96 :: c97 :: c98 :: c99 :: c100 :: c101 :: c102 :: c103 :: c104 :: c105 :: c106 :: c107 :: c108 :: c109 :: c110 :: c111 :: c112 :: c113 :: c114 :: c115 :: c116 :: c117 :: c118 :: c119 :: c120 :: c121 :: c122 :: c123 :: c124 :: c125 :: c126 :: c127 :: c128 :: c129 :: c130 :: c131 :: c132 :: c133 :: c134 :: c135 :: c136 :: c137 :: c138 :: c139 :: c140 :: c141 :: c142 :: c143 :: c144 :: c145 :: c146 :: c147 :: c148 :: c149 :: c150 :: c151 :: c152 :: c153 :: c154 :: c155 :: c156 :: c157 :: c158 :: c159 :: c160 :: c161 :: c162 :: c163 :: c164 :: c165 :: c166 :: c167 :: c168 :: c169 :: c170 :: c171 :: c172 :: c173 :: c174 :: c175 :: c176 :: c177 :: c178 :: c179 :: c180 :: c181 :: c182 :: c183 :: c184 :: c185 :: c186 :: c187 :: c188 :: c189 :: c190 :: c191 :: c192 :: c193 :: c194 :: []), []⟩ w := by
  conv => arg 2; whnf
  go_loopw [55] (fun i wr => ∃ q : Nat, q ≤ 17 ∧ i = .int .i64 q ∧ Fr w0 b d N age g (fun j => if j < q ∧ ow j = S then 0 else ow j) wr ∧ wr.heap[x]? = some (actb K S ra rl rc)) (fun i _ => 17 - (intOf i).toNat)
  case atStart => exact ⟨0, by omega, rfl, ⟨HF1.out.gi, HF1.out.ow.trans (congrArg (fun F => some (arr17 29 F)) (funext fun j => by rw [if_neg (by omega)])), HF1.out.be⟩, HX1.out⟩
  case round =>
    obtain ⟨q, hq, rfl, hf3, hx3⟩ := hrel
    have HF3 := Lib.hid hf3; have HX4 := Lib.hid hx3
    clear hf3 hx3
    by_cases hq17 : q < 17
    · have hc := arr17_cell HF3.out.ow q hq17
      have hz := arr17_free HF3.out.ow q
      rw [if_neg (by omega)] at hc
      obtain ⟨e0, e1, e2⟩ := actb_c HX4.out
      go_wp2_with fail
      go_quiet (fail)
      have HF4 := Lib.hid (HF3.out.drewN nq)
      have HX5 := Lib.hid (show (wr.drewN nq).heap[x]? = some (actb K S ra rl rc) from HX4.out)
      cases hm : (ow q == S)
      · have HM := Lib.hid hm
        go_wp2_with fail
        go_roundw
        case rel =>
          refine ⟨q + 1, by omega, by go_num, ⟨HF4.out.gi, HF4.out.ow.trans (congrArg (fun F => some (arr17 29 F)) (funext fun j => ?_)), HF4.out.be⟩, HX5.out⟩
          exact congrArg (Value.int .i64) (wipe_no HM.out j)
        case measure => simp [intOf]; omega
      · have HM := Lib.hid hm
        go_wp2_with fail
        go_roundw
        case rel =>
          refine ⟨q + 1, by omega, by go_num, ⟨HF4.out.gi.other (by omega) _ _, ?_, HF4.out.be.setCell h0d _⟩, set_block HX5.out (by omega) _ _⟩
          exact (arr17_put (Value.int .i64) HF4.out.ow q hq17 0).trans (congrArg (fun F => some (arr17 29 F)) (funext fun j => congrArg (Value.int .i64) (wipe_yes HM.out j)))
        case measure => simp [intOf]; omega
    · obtain rfl : q = 17 := by omega
      go_wp2_with fail
      exact hexit.out _ _ _ _ _ _ _ _ _ _ _ _ _ _ HF3.out
end Go.Proofs.Ytbdphbkpglhhaaa
