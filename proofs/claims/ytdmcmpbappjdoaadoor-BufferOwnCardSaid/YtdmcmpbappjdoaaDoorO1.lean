/- BufferOwn: memory as it begins. -/
import Derived.Test.YtdmcmpbappjdoaaDoorO0
namespace Go.Proofs.YtdmcmpbappjdoaaDoor
open Go.ChangeShapes Go.WideShapes Go.ChangeAt Go.RowKit
set_option linter.unusedVariables false

set_option maxHeartbeats 2000000 in
set_option maxRecDepth 100000 in
theorem ini_loop (Q : Exit → Act → World → Prop) (c0 c1 c2 c3 c4 c6 c7 c8 c9 c10 c11 c12 c13 c14 c15 c16 c17 c18 c19 c20 c21 c22 c23 c24 c25 c26 c27 c28 c29 c32 c33 c34 c35 c36 c37 c38 c39 c40 c41 c42 c43 c44 c45 c46 c47 c48 c49 c50 c51 c52 c53 c54 c55 c56 c57 c58 c59 c60 c61 c62 c63 c64 c65 c66 c67 c68 c69 c70 c71 c72 c73 c74 c75 c76 c77 c78 c79 c80 c81 c82 c83 c84 c85 c86 c87 c88 c89 c90 c91 c92 c93 c94 c95 c96 c97 c98 c99 c100 c101 c102 c103 c104 c105 c106 c107 c108 c109 c110 c111 c112 c113 c114 c115 c116 c117 c118 c119 c120 c121 c122 c123 c124 c125 c126 c127 c128 c129 c130 c131 c132 c133 c134 c135 c136 c137 c138 c139 c140 c141 c142 c143 c144 c145 c146 : Value) (g cm : Nat) (w0 w : World) (hg : w0.heap.size ≤ g) (HM : Hid (Mo w g (fun _ => 0))) (HB : Hid (Below w0.heap.size w0 w))
    (hexit : Hid (∀ (u6 u31 u32 u33 u34 u35 u36 u37 u38 u39 : Value) (w' : World), Ms w' g (fun j => (j : Int)) → Below w0.heap.size w0 w' → Q (.exit 0) ⟨List.toArray (c0 :: c1 :: c2 :: c3 :: c4 :: .slice (some ⟨g, 0, none⟩) 2048 cm :: u6 :: c7 :: c8 :: c9 :: c10 :: c11 :: c12 :: c13 :: c14 :: c15 :: c16 :: c17 :: c18 :: c19 :: c20 :: c21 :: c22 :: c23 :: c24 :: c25 :: c26 :: c27 :: c28 :: c29 :: .int .i64 2048 :: u31 :: u32 :: u33 :: u34 :: u35 :: u36 :: u37 :: u38 :: u39 :: c40 :: c41 :: c42 :: c43 :: c44 :: c45 :: c46 :: c47 :: c48 :: c49 :: c50 :: c51 :: c52 :: c53 :: c54 :: c55 :: c56 :: c57 :: c58 :: c59 :: c60 :: c61 :: c62 :: c63 :: c64 :: c65 :: c66 :: c67 :: c68 :: c69 :: c70 :: c71 :: c72 :: c73 :: c74 :: c75 :: c76 :: c77 :: c78 :: c79 :: c80 :: c81 :: c82 :: c83 :: c84 :: c85 :: c86 :: c87 :: c88 :: c89 :: c90 :: c91 :: c92 :: c93 :: c94 :: c95 :: c96 :: c97 :: c98 :: c99 :: c100 :: c101 :: c102 :: c103 :: c104 :: c105 :: c106 :: c107 :: c108 :: c109 :: c110 :: c111 :: c112 :: c113 :: c114 :: c115 :: c116 :: c117 :: c118 :: c119 :: c120 :: c121 :: c122 :: c123 :: c124 :: c125 :: c126 :: c127 :: c128 :: c129 :: c130 :: c131 :: c132 :: c133 :: c134 :: c135 :: c136 :: c137 :: c138 :: c139 :: c140 :: c141 :: c142 :: c143 :: c144 :: c145 :: c146 :: []), []⟩ w')) :
    Code.wp Tryd.prog (lp 0) Q ⟨List.toArray (c0 :: c1 :: c2 :: c3 :: c4 :: .slice (some ⟨g, 0, none⟩) 2048 cm :: c6 :: c7 :: c8 :: c9 :: c10 :: c11 :: c12 :: c13 :: c14 :: c15 :: c16 :: c17 :: c18 :: c19 :: c20 :: c21 :: c22 :: c23 :: c24 :: c25 :: c26 :: c27 :: c28 :: c29 :: .int .i64 2048 :: .int .i64 0 :: c32 :: c33 :: c34 :: c35 :: c36 :: c37 :: c38 :: c39 :: c40 :: c41 :: c42 :: c43 :: c44 :: c45 :: c46 :: c47 :: c48 :: c49 :: c50 :: c51 :: c52 :: c53 :: c54 :: c55 :: c56 :: c57 :: c58 :: c59 :: c60 :: c61 :: c62 :: c63 :: c64 :: c65 :: c66 :: c67 :: c68 :: c69 :: c70 :: c71 :: c72 :: c73 :: c74 :: c75 :: c76 :: c77 :: c78 :: c79 :: c80 :: c81 :: c82 :: c83 :: c84 :: c85 :: c86 :: c87 :: c88 :: c89 :: c90 :: c91 :: c92 :: c93 :: c94 :: c95 :: c96 :: c97 :: c98 :: c99 :: c100 :: c101 :: c102 :: c103 :: c104 :: c105 :: c106 :: c107 :: c108 :: c109 :: c110 :: c111 :: c112 :: c113 :: c114 :: c115 :: c116 :: c117 :: c118 :: c119 :: c120 :: c121 :: c122 :: c123 :: c124 :: c125 :: c126 :: c127 :: c128 :: c129 :: c130 :: c131 :: c132 :: c133 :: c134 :: c135 :: c136 :: c137 :: c138 :: c139 :: c140 :: c141 :: c142 :: c143 :: c144 :: c145 :: c146 :: []), []⟩ w := by
  conv => arg 2; whnf
  go_loopw [31] (fun i wr => ∃ q : Nat, q ≤ 2048 ∧ i = .int .i64 q ∧ Mo wr g (fun j => if j < q then (j : Int) else 0) ∧ Below w0.heap.size w0 wr) (fun i _ => 2048 - (intOf i).toNat)
  case atStart => exact ⟨0, by omega, rfl, ⟨HM.out.c.congr (fun j _ => by rw [if_neg (by omega)]), HM.out.z⟩, HB.out⟩
  case round =>
    obtain ⟨q, hq, rfl, hm, hb⟩ := hrel
    have HMq := Lib.hid hm; have HBq := Lib.hid hb
    clear hm hb
    by_cases hq2 : q < 2048
    · have y := HMq.out.c q hq2
      have z := HMq.out.z q
      have hu : IntKind.u64.wrap (q : Int) = (q : Int) := by rw [IntKind.wrap_u64]; omega
      go_wp2_with fail
      go_roundw
      case rel => exact ⟨q + 1, by omega, by go_num, ⟨(HMq.out.set q hq2 q).c.congr (fun j _ => by
        by_cases hj : j = q
        · subst hj; rw [if_pos rfl, if_pos (by omega)]
        · rw [if_neg hj]
          have e : (j < q + 1) = (j < q) := by simp; omega
          simp only [e]), (HMq.out.set q hq2 q).z⟩, HBq.out.setCell hg _⟩
      case measure => simp [intOf]; omega
    · obtain rfl : q = 2048 := by omega
      go_wp2_with fail
      exact hexit.out _ _ _ _ _ _ _ _ _ _ _ (HMq.out.c.congr (fun j hj => by rw [if_pos hj])) HBq.out
end Go.Proofs.YtdmcmpbappjdoaaDoor
