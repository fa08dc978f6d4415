/- BufferOwn: memory as it should come to be. -/
import Derived.Test.YtdmcmpbappjdoaaDoorO0
namespace Go.Proofs.YtdmcmpbappjdoaaDoor
open Go.ChangeShapes Go.WideShapes Go.ChangeAt Go.RowKit
set_option linter.unusedVariables false

set_option maxHeartbeats 2000000 in
set_option maxRecDepth 100000 in
theorem want_loop (Q : Exit → Act → World → Prop) (c0 c1 c2 c3 c4 c5 c6 c8 c9 c10 c11 c12 c13 c14 c15 c16 c17 c18 c19 c20 c21 c22 c23 c24 c25 c26 c27 c28 c29 c30 c31 c32 c33 c34 c35 c36 c37 c38 c39 c40 c44 c45 c46 c47 c48 c49 c50 c51 c52 c53 c54 c55 c56 c57 c58 c59 c60 c61 c62 c63 c64 c65 c66 c67 c68 c69 c70 c71 c72 c73 c74 c75 c76 c77 c78 c79 c80 c81 c82 c83 c84 c85 c86 c87 c88 c89 c90 c91 c92 c93 c94 c95 c96 c97 c98 c99 c100 c101 c102 c103 c104 c105 c106 c107 c108 c109 c110 c111 c112 c113 c114 c115 c116 c117 c118 c119 c120 c121 c122 c123 c124 c125 c126 c127 c128 c129 c130 c131 c132 c133 c134 c135 c136 c137 c138 c139 c140 c141 c142 c143 c144 c145 c146 : Value) (g cm : Nat) (ao : Option Addr) (n cap : Nat) (l : List Ent) (M : Nat → Int) (w : World) (hn8 : n ≤ 8) (HN : Hid (n = l.length)) (HK : Hid (TK w)) (HE : Hid (Ents w ao l)) (HO : Hid (Oks l)) (HM : Hid (Ms w g M))
    (hexit : Hid (∀ (g7 c7 : Nat) (u4 u9 u43 u44 u45 u46 u47 u48 u49 u50 u51 u52 u53 u54 u55 u56 u57 u58 u59 u60 u61 u62 u63 u64 : Value) (w' : World), Ms w' g7 (memK l M n) → (∀ j, j < n → small (nt l j)) → Below w.heap.size w w' → Q (.exit 2) ⟨List.toArray (c0 :: c1 :: c2 :: c3 :: u4 :: c5 :: c6 :: .slice (some ⟨g7, 0, none⟩) 2048 c7 :: c8 :: u9 :: c10 :: c11 :: c12 :: c13 :: c14 :: c15 :: c16 :: c17 :: c18 :: c19 :: c20 :: c21 :: c22 :: c23 :: c24 :: c25 :: c26 :: c27 :: c28 :: c29 :: c30 :: c31 :: c32 :: c33 :: c34 :: c35 :: c36 :: c37 :: c38 :: c39 :: c40 :: .slice ao n cap :: .int .i64 n :: u43 :: u44 :: u45 :: u46 :: u47 :: u48 :: u49 :: u50 :: u51 :: u52 :: u53 :: u54 :: u55 :: u56 :: u57 :: u58 :: u59 :: u60 :: u61 :: u62 :: u63 :: u64 :: c65 :: c66 :: c67 :: c68 :: c69 :: c70 :: c71 :: c72 :: c73 :: c74 :: c75 :: c76 :: c77 :: c78 :: c79 :: c80 :: c81 :: c82 :: c83 :: c84 :: c85 :: c86 :: c87 :: c88 :: c89 :: c90 :: c91 :: c92 :: c93 :: c94 :: c95 :: c96 :: c97 :: c98 :: c99 :: c100 :: c101 :: c102 :: c103 :: c104 :: c105 :: c106 :: c107 :: c108 :: c109 :: c110 :: c111 :: c112 :: c113 :: c114 :: c115 :: c116 :: c117 :: c118 :: c119 :: c120 :: c121 :: c122 :: c123 :: c124 :: c125 :: c126 :: c127 :: c128 :: c129 :: c130 :: c131 :: c132 :: c133 :: c134 :: c135 :: c136 :: c137 :: c138 :: c139 :: c140 :: c141 :: c142 :: c143 :: c144 :: c145 :: c146 :: []), []⟩ w'))
    (hret : Hid (∀ (u7 u9 u43 u44 u45 u46 u47 u48 u49 u50 u51 u52 u53 u54 u55 u56 u57 u58 u59 u60 u61 u62 u63 u64 : Value) (w' : World), Below w.heap.size w w' → Q .ret ⟨List.toArray (c0 :: c1 :: c2 :: c3 :: .bool true :: c5 :: c6 :: u7 :: c8 :: u9 :: c10 :: c11 :: c12 :: c13 :: c14 :: c15 :: c16 :: c17 :: c18 :: c19 :: c20 :: c21 :: c22 :: c23 :: c24 :: c25 :: c26 :: c27 :: c28 :: c29 :: c30 :: c31 :: c32 :: c33 :: c34 :: c35 :: c36 :: c37 :: c38 :: c39 :: c40 :: .slice ao n cap :: .int .i64 n :: u43 :: u44 :: u45 :: u46 :: u47 :: u48 :: u49 :: u50 :: u51 :: u52 :: u53 :: u54 :: u55 :: u56 :: u57 :: u58 :: u59 :: u60 :: u61 :: u62 :: u63 :: u64 :: c65 :: c66 :: c67 :: c68 :: c69 :: c70 :: c71 :: c72 :: c73 :: c74 :: c75 :: c76 :: c77 :: c78 :: c79 :: c80 :: c81 :: c82 :: c83 :: c84 :: c85 :: c86 :: c87 :: c88 :: c89 :: c90 :: c91 :: c92 :: c93 :: c94 :: c95 :: c96 :: c97 :: c98 :: c99 :: c100 :: c101 :: c102 :: c103 :: c104 :: c105 :: c106 :: c107 :: c108 :: c109 :: c110 :: c111 :: c112 :: c113 :: c114 :: c115 :: c116 :: c117 :: c118 :: c119 :: c120 :: c121 :: c122 :: c123 :: c124 :: c125 :: c126 :: c127 :: c128 :: c129 :: c130 :: c131 :: c132 :: c133 :: c134 :: c135 :: c136 :: c137 :: c138 :: c139 :: c140 :: c141 :: c142 :: c143 :: c144 :: c145 :: c146 :: []), []⟩ w')) :
    Code.wp Tryd.prog (lp 1) Q ⟨List.toArray (c0 :: c1 :: c2 :: c3 :: c4 :: c5 :: c6 :: .slice (some ⟨g, 0, none⟩) 2048 cm :: c8 :: c9 :: c10 :: c11 :: c12 :: c13 :: c14 :: c15 :: c16 :: c17 :: c18 :: c19 :: c20 :: c21 :: c22 :: c23 :: c24 :: c25 :: c26 :: c27 :: c28 :: c29 :: c30 :: c31 :: c32 :: c33 :: c34 :: c35 :: c36 :: c37 :: c38 :: c39 :: c40 :: .slice ao n cap :: .int .i64 n :: .int .i64 0 :: c44 :: c45 :: c46 :: c47 :: c48 :: c49 :: c50 :: c51 :: c52 :: c53 :: c54 :: c55 :: c56 :: c57 :: c58 :: c59 :: c60 :: c61 :: c62 :: c63 :: c64 :: c65 :: c66 :: c67 :: c68 :: c69 :: c70 :: c71 :: c72 :: c73 :: c74 :: c75 :: c76 :: c77 :: c78 :: c79 :: c80 :: c81 :: c82 :: c83 :: c84 :: c85 :: c86 :: c87 :: c88 :: c89 :: c90 :: c91 :: c92 :: c93 :: c94 :: c95 :: c96 :: c97 :: c98 :: c99 :: c100 :: c101 :: c102 :: c103 :: c104 :: c105 :: c106 :: c107 :: c108 :: c109 :: c110 :: c111 :: c112 :: c113 :: c114 :: c115 :: c116 :: c117 :: c118 :: c119 :: c120 :: c121 :: c122 :: c123 :: c124 :: c125 :: c126 :: c127 :: c128 :: c129 :: c130 :: c131 :: c132 :: c133 :: c134 :: c135 :: c136 :: c137 :: c138 :: c139 :: c140 :: c141 :: c142 :: c143 :: c144 :: c145 :: c146 :: []), []⟩ w := by
  conv => arg 2; whnf
  go_loopw [7, 43] (fun s7 i wr => ∃ (k g7 c7 : Nat), k ≤ n ∧ i = .int .i64 k ∧ s7 = .slice (some ⟨g7, 0, none⟩) 2048 c7 ∧ Ms wr g7 (memK l M k) ∧ (∀ j, j < k → small (nt l j)) ∧ Below w.heap.size w wr) (fun _ i _ => 8 - (intOf i).toNat)
  case atStart => exact ⟨0, g, cm, by omega, rfl, rfl, HM.out, fun j hj => by omega, Below.refl _ _⟩
  case round =>
    obtain ⟨k, g7, c7, hkn, rfl, rfl, hms, hsm, hbe⟩ := hrel
    have HMS := Lib.hid hms; have HSM := Lib.hid hsm; have HBE := Lib.hid hbe
    clear hms hsm hbe
    by_cases hk : k < n
    · obtain ⟨b, off, rfl, x⟩ := (HE.out.below HBE.out) k (by have := HN.out; omega)
      obtain ⟨x0, x1, x2, x3, x4⟩ := x
      have HOK := Lib.hid (HO.out.at (i := k) (by have := HN.out; omega))
      have B1 := Lib.hid (HBE.out.alloc HBE.out.size (.cells (rowE (nt l k)) 31 (0, 0)))
      have HMA := Lib.hid (HMS.out.below ((Below.refl _ _).alloc (Nat.le_refl _) (.cells (rowE (nt l k)) 31 (0, 0))))
      cases d1 : decide (2048 ≤ (nt l k).wd)
      · cases d2 : decide (4 ≤ (nt l k).fm)
        · cases d3 : decide (4 ≤ (nt l k).fr)
          · have HSK := Lib.hid (show (nt l k).fr < 4 from Int.not_le.1 (of_decide_eq_false d3))
            go_wp2_with fail
            refine (put_ok g7 c7 (memK l M k) (nt l k) _ HMA.out HOK.out).mono ?_
            intro ε w4 hp
            obtain ⟨g4, c4, rfl, _, _, hms4, hb4⟩ := hp
            have B4 := Lib.hid (B1.out.trans (hb4.mono B1.out.size))
            have HMS4 := Lib.hid hms4
            clear hms4 hb4
            go_wp2_with fail
            go_roundw
            case rel => exact ⟨k + 1, g4, c4, by omega, by go_num, rfl, HMS4.out, fun j hj => by
              by_cases hjk : j = k
              · subst hjk; exact HSK.out
              · exact HSM.out j (by omega), B4.out⟩
            case measure => simp [intOf]; omega
          · go_wp2_with fail
            refine (wakes_ok _ (HK.out.below B1.out)).mono ?_
            rintro ε w9 ⟨rfl, hb9⟩
            have B9 := Lib.hid (B1.out.trans (hb9.mono B1.out.size))
            clear hb9
            go_wp2_with fail
            exact hret.out _ _ _ _ _ _ _ _ _ _ _ _ _ _ _ _ _ _ _ _ _ _ _ _ _ B9.out
        · go_wp2_with fail
          refine (wakes_ok _ (HK.out.below B1.out)).mono ?_
          rintro ε w9 ⟨rfl, hb9⟩
          have B9 := Lib.hid (B1.out.trans (hb9.mono B1.out.size))
          clear hb9
          go_wp2_with fail
          exact hret.out _ _ _ _ _ _ _ _ _ _ _ _ _ _ _ _ _ _ _ _ _ _ _ _ _ B9.out
      · go_wp2_with fail
        refine (wakes_ok _ (HK.out.below B1.out)).mono ?_
        rintro ε w9 ⟨rfl, hb9⟩
        have B9 := Lib.hid (B1.out.trans (hb9.mono B1.out.size))
        clear hb9
        go_wp2_with fail
        exact hret.out _ _ _ _ _ _ _ _ _ _ _ _ _ _ _ _ _ _ _ _ _ _ _ _ _ B9.out
    · obtain rfl : k = n := by omega
      go_wp2_with fail
      exact hexit.out g7 c7 _ _ _ _ _ _ _ _ _ _ _ _ _ _ _ _ _ _ _ _ _ _ _ _ _ HMS.out HSM.out HBE.out
end Go.Proofs.YtdmcmpbappjdoaaDoor
