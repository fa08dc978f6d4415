/- AsidApart: who runs and stays is noted. -/
import Derived.Test.YtbdphbkpglhhaaaB0
namespace Go.Proofs.Ytbdphbkpglhhaaa
open Go.ChangeShapes Go.WideShapes Go.ChangeAt Go.RowKit
set_option linter.unusedVariables false

set_option maxHeartbeats 1000000 in
set_option maxRecDepth 100000 in
theorem kept_loop (Q : Exit → Act → World → Prop) (c0 c1 c2 c3 c4 c6 c7 c8 c10 c13 c14 c15 c16 c17 c18 c19 c20 c21 c22 c23 c24 c25 c26 c27 c28 c29 c30 c31 c32 c33 c34 c35 c36 c37 c38 c39 c40 c41 c42 c43 c44 c45 c46 c47 c48 c49 c50 c51 c52 c53 c54 c55 c56 c57 c58 c59 c60 c61 c62 c63 c64 c65 c66 c67 c68 c69 c70 c71 c72 c73 c74 c75 c76 c77 c78 c79 c80 c81 c82 c83 c84 c85 c86 c87 c88 c89 c90 c91 c92 c93 c94 c95 c96 c97 c98 c99 c100 c101 c102 c103 c104 c105 c106 c107 c108 c109 c110 c111 c112 c113 c114 c115 c116 c117 c118 c119 c120 c121 c122 c123 c124 c125 c126 c127 c128 c129 c130 c131 c132 c133 c134 c135 c136 c137 c138 c139 c140 c141 c142 c143 c144 c145 c146 c147 c148 c149 c150 c151 c152 c153 c154 c155 c156 c157 c158 c159 c160 c161 c162 c163 c164 c165 c166 c167 c168 c169 c170 c171 c172 c173 c174 c175 c176 c177 c178 c179 c180 c181 c182 c183 c184 c185 c186 c187 c188 c189 c190 c191 c192 c193 c194 : Value) (w0 : World) (b d N x y : Nat) (age : Int) (g ow : Nat → Int) (K S : Int) (ra : Option Addr) (rl rc : Nat) (R : Nat → Int) (w : World)
    (hN : N ≤ 16) (hl : rl ≤ 20) (hby : b < y) (hdy : d < y) (hxy : x < y) (h0y : w0.heap.size ≤ y) (HR : Hid (∀ w', Below w0.heap.size w0 w' → Run w' ra rl R)) (HI : Hid (Inj N g))
    (HF1 : Hid (Fr w0 b d N age g ow w)) (HX1 : Hid (w.heap[x]? = some (actb K S ra rl rc))) (HY1 : Hid (w.heap[y]? = some (arr17 29 fun _ => .int .i64 0)))
    (hexit : Hid (∀ (u12 u13 u14 u16 u67 u68 u69 u70 u71 u72 u73 u74 u75 u76 u77 u78 u79 u80 u81 u82 u83 u84 u85 u86 u87 u88 u89 u90 u91 u92 u93 : Value) (w' : World), Fr w0 b d N age g ow w' → w'.heap[x]? = some (actb K S ra rl rc) → w'.heap[y]? = some (arr17 29 fun j => .int .i64 (kp N g R rl 7 0 j)) → Q (.exit 4) ⟨List.toArray (c0 :: c1 :: c2 :: c3 :: c4 :: .pointer (some ⟨b, 0, none⟩) :: c6 :: c7 :: c8 :: .pointer (some ⟨x, 0, none⟩) :: c10 :: .pointer (some ⟨y, 0, none⟩) :: u12 :: u13 :: u14 :: c15 :: u16 :: c17 :: c18 :: c19 :: c20 :: c21 :: c22 :: c23 :: c24 :: c25 :: c26 :: c27 :: c28 :: c29 :: c30 :: c31 :: c32 :: c33 :: c34 :: c35 :: c36 :: c37 :: c38 :: c39 :: c40 :: c41 :: c42 :: c43 :: c44 :: c45 :: c46 :: c47 :: c48 :: c49 :: c50 :: c51 :: c52 :: c53 :: c54 :: c55 :: c56 :: c57 :: c58 :: c59 :: c60 :: c61 :: c62 :: c63 :: c64 :: c65 :: c66 :: u67 :: u68 :: u69 :: u70 :: u71 :: u72 :: u73 :: u74 :: u75 :: u76 :: u77 :: u78 :: u79 :: u80 :: u81 :: u82 :: u83 :: u84 :: u85 :: u86 :: u87 :: u88 :: u89 :: u90 :: u91 :: u92 :: u93 :: c94 :: c95 :: c96 :: c97 :: c98 :: c99 :: c100 :: c101 :: c102 :: c103 :: c104 :: c105 :: c106 :: c107 :: c108 :: c109 :: c110 :: c111 :: c112 :: c113 :: c114 :: c115 :: c116 :: c117 :: c118 :: c119 :: c120 :: c121 :: c122 :: c123 :: c124 :: c125 :: c126 :: c127 :: c128 :: c129 :: c130 :: c131 :: c132 :: c133 :: c134 :: c135 :: c136 :: c137 :: c138 :: c139 :: c140 :: c141 :: c142 :: c143 :: c144 :: c145 :: c146 :: c147 :: c148 :: c149 :: c150 :: c151 :: c152 :: c153 :: c154 :: c155 :: c156 :: c157 :: c158 :: c159 :: c160 :: c161 :: c162 :: c163 :: c164 :: c165 :: c166 :: c167 :: c168 :: c169 :: c170 :: c171 :: c172 :: c173 :: c174 :: c175 :: c176 :: c177 :: c178 :: c179 :: c180 :: c181 :: c182 :: c183 :: c184 :: c185 :: c186 :: c187 :: c188 :: c189 :: c190 :: c191 :: c192 :: c193 :: c194 :: []), []⟩ w')) :
    Code.wp Try.prog (lp 2) Q ⟨List.toArray (c0 :: c1 :: c2 :: c3 :: c4 :: .pointer (some ⟨b, 0, none⟩) :: c6 :: c7 :: c8 :: .pointer (some ⟨x, 0, none⟩) :: c10 :: .pointer (some ⟨y, 0, none⟩) :: .int .i64 1 :: c13 :: c14 :: c15 :: c16 :: c17 :: c18 :: c19 :: c20 :: c21 :: c22 :: c23 :: c24 :: c25 :: c26 :: c27 :: c28 :: c29 :: c30 :: c31 :: c32 :: c33 :: c34 :: c35 :: c36 :: c37 :: c38 :: c39 :: c40 :: c41 :: c42 :: c43 :: c44 :: c45 :: c46 :: c47 :: c48 :: c49 :: c50 :: c51 :: c52 :: c53 :: c54 :: c55 :: c56 :: c57 :: c58 :: c59 :: c60 :: c61 :: c62 :: c63 :: c64 :: c65 :: c66 :: c67 :: c68 :: c69 :: c70 :: c71 :: c72 :: c73 :: c74 :: c75 :: c76 :: c77 :: c78 :: c79 :: c80 :: c81 :: c82 :: c83 :: c84 :: c85 :: c86 :: c87 :: c88 :: c89 :: c90 :: c91 :: c92 :: c93 :: c94 :: c95 :: c96 :: c97 :: c98 :: c99 :: c100 :: c101 :: c102 :: c103 :: c104 :: c105 :: c106 :: c107 :: c108 :: c109 :: c110 :: c111 :: c112 :: c113 :: c114 :: c115 :: c116 :: c117 :: c118 :: c119 :: c120 :: c121 :: c122 :: c123 :: c124 :: c125 :: c126 :: c127 :: c128 :: c129 :: c130 :: c131 :: c132 :: c133 :: c134 :: c135 :: c136 :: c137 :: c138 :: c139 :: c140 :: c141 :: c142 :: c143 :: c144 :: c145 :: c146 :: c147 :: c148 :: c149 :: c150 :: c151 :: c152 :: c153 :: c154 :: c155 :: c156 :: c157 :: c158 :: c159 :: c160 :: c161 :: c162 :: c163 :: c164 :: c165 :: c166 :: c167 :: c168 :: c169 :: c170 :: c171 :: c172 :: c173 :: c174 :: c175 :: c176 :: c177 :: c178 :: c179 :: c180 :: c181 :: c182 :: c183 :: c184 :: c185 :: c186 :: c187 :: c188 :: c189 :: c190 :: c191 :: c192 :: c193 :: c194 :: []), []⟩ w := by
  conv => arg 2; whnf
  go_loopw [12] (fun i wr => ∃ q : Nat, 1 ≤ q ∧ q ≤ 7 ∧ i = .int .i64 q ∧ Fr w0 b d N age g ow wr ∧ wr.heap[x]? = some (actb K S ra rl rc) ∧ wr.heap[y]? = some (arr17 29 fun j => .int .i64 (kp N g R rl q 0 j))) (fun i _ => 7 - (intOf i).toNat)
  case atStart => exact ⟨1, by omega, by omega, rfl, HF1.out, HX1.out, HY1.out.trans (congrArg (fun F => some (arr17 29 F)) (funext fun j => congrArg (Value.int .i64) (kp_zero N g R rl j).symm))⟩
  case round =>
    obtain ⟨q, hq1, hq2, rfl, hf3, hx3, hy3⟩ := hrel
    have HF3 := Lib.hid hf3; have HX3 := Lib.hid hx3; have HY3 := Lib.hid hy3
    clear hf3 hx3 hy3
    by_cases hq7 : q < 7
    · obtain ⟨e0, e1, e2⟩ := actb_c HX3.out
      have hq6 : 1 ≤ (q : Int) ∧ (q : Int) ≤ 6 := by omega
      have HQ6 := Lib.hid hq6
      have hle := ofA_le N g q
      clear hq6
      go_wp2_with fail
      refine (of_ok b N age g q _ HF3.out.gi hN).mono ?_
      rintro e w' ⟨rfl, rfl⟩
      go_wp2_with fail
      clear e0 e1 e2
      obtain ⟨wp, rfl⟩ : ∃ wp : World, wp = wr := ⟨_, rfl⟩
      go_loopw [80] (fun i wr => ∃ r : Nat, r ≤ rl ∧ i = .int .i64 r ∧ Fr w0 b d N age g ow wr ∧ wr.heap[x]? = some (actb K S ra rl rc) ∧ wr.heap[y]? = some (arr17 29 fun j => .int .i64 (kp N g R rl q r j))) (fun i _ => 20 - (intOf i).toNat)
      case atStart => exact ⟨0, by omega, rfl, HF3.out, HX3.out, HY3.out⟩
      case round =>
        obtain ⟨r, hr, rfl, hf4, hx4, hy4⟩ := hrel
        have HF4 := Lib.hid hf4; have HX4 := Lib.hid hx4; have HY4 := Lib.hid hy4
        clear hf4 hx4 hy4
        by_cases hrl : r < rl
        · obtain ⟨rb, ro, hra, hrc⟩ := HR.out wr HF4.out.be r hrl
          cases hgood : ofB N g q
          · have hA0 : ofA N g q = 0 := by simpa [ofB] using hgood
            have HA0 := Lib.hid hA0
            clear hA0
            go_wp2_with fail
            go_roundw
            case rel => exact ⟨r + 1, by omega, by go_num, HF4.out, HX4.out, HY4.out.trans (congrArg (fun F => some (arr17 29 F)) (funext fun j => congrArg (Value.int .i64) (kp_no HI.out HQ6.out (.inl HA0.out) j)))⟩
            case measure => simp [intOf]; omega
          · have hA0 : ofA N g q ≠ 0 := by simpa [ofB] using hgood
            have HA0 := Lib.hid hA0
            clear hA0
            cases hm : (R r == (ofA N g q : Int))
            · have hne : R r ≠ (ofA N g q : Int) := by simpa using hm
              have HNE := Lib.hid hne
              clear hne
              go_wp2_with fail
              go_roundw
              case rel => exact ⟨r + 1, by omega, by go_num, HF4.out, HX4.out, HY4.out.trans (congrArg (fun F => some (arr17 29 F)) (funext fun j => congrArg (Value.int .i64) (kp_no HI.out HQ6.out (.inr HNE.out) j)))⟩
              case measure => simp [intOf]; omega
            · have hne : R r = (ofA N g q : Int) := by simpa using hm
              have HNE := Lib.hid hne
              clear hne
              have hc := arr17_cell HY4.out (ofA N g q) (by omega)
              have hz := arr17_free HY4.out (ofA N g q)
              go_wp2_with fail
              go_roundw
              case rel => exact ⟨r + 1, by omega, by go_num, ⟨HF4.out.gi.other (d := y) (by omega) _ _, set_block (d := y) HF4.out.ow (by omega) _ _, HF4.out.be.setCell (p := ⟨y, ofA N g q, none⟩) h0y _⟩, set_block (d := y) HX4.out (by omega) _ _, (arr17_put (Value.int .i64) HY4.out (ofA N g q) (by omega) q).trans (congrArg (fun F => some (arr17 29 F)) (funext fun j => congrArg (Value.int .i64) (kp_yes HI.out HQ6.out HA0.out HNE.out j)))⟩
              case measure => simp [intOf]; omega
        · obtain rfl : r = rl := by omega
          go_wp2_with fail
          go_roundw
          case rel => exact ⟨q + 1, by omega, by omega, by go_num, HF4.out, HX4.out, HY4.out.trans (congrArg (fun F => some (arr17 29 F)) (funext fun j => congrArg (Value.int .i64) (by have := kp_space N g R r q HQ6.out.1 j; simpa using this)))⟩
          case measure => simp [intOf]; omega
    · obtain rfl : q = 7 := by omega
      go_wp2_with fail
      exact hexit.out _ _ _ _ _ _ _ _ _ _ _ _ _ _ _ _ _ _ _ _ _ _ _ _ _ _ _ _ _ _ _ _ HF3.out HX3.out HY3.out
end Go.Proofs.Ytbdphbkpglhhaaa
