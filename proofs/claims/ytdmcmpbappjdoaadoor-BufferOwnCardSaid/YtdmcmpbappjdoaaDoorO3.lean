/- BufferOwn: who may go. -/
import Derived.Test.YtdmcmpbappjdoaaDoorO0
namespace Go.Proofs.YtdmcmpbappjdoaaDoor
open Go.ChangeShapes Go.WideShapes Go.ChangeAt Go.RowKit
set_option linter.unusedVariables false

set_option maxHeartbeats 2000000 in
set_option maxRecDepth 100000 in
def nums (l : List Nat) : List Value := l.map fun (j : Nat) => .int .i64 (j : Int)
theorem mays_loop (Q : Exit → Act → World → Prop) (c0 c1 c2 c3 c4 c5 c6 c7 c8 c9 c11 c13 c14 c15 c16 c17 c18 c19 c20 c21 c22 c23 c24 c25 c26 c27 c28 c29 c30 c31 c32 c33 c34 c35 c36 c37 c38 c39 c40 c41 c42 c43 c44 c45 c46 c47 c48 c49 c50 c51 c52 c53 c54 c55 c56 c57 c58 c59 c60 c61 c62 c63 c64 c65 c66 c67 c68 c69 c70 c71 c72 c73 c76 c77 c78 c79 c80 c81 c82 c83 c84 c85 c86 c87 c88 c89 c90 c91 c92 c93 c94 c95 c96 c97 c98 c99 c100 c101 c102 c103 c104 c105 c106 c107 c108 c109 c110 c111 c112 c113 c114 c115 c116 c117 c118 c119 c120 c121 c122 c123 c124 c125 c126 c127 c128 c129 c130 c131 c132 c133 c134 c135 c136 c137 c138 c139 c140 c141 c142 c143 c144 c145 c146 : Value) (ar : Option Addr) (nr cr : Nat) (l : List Ent) (w : World) (hn8 : nr ≤ 8) (hcr : nr ≤ cr) (hcr2 : Hid (cr ≤ 9223372036854775807)) (HN : Hid (nr = l.length)) (HK : Hid (TK w)) (HE : Hid (Ents w ar l)) (HO : Hid (Oks l))
    (hexit : Hid (∀ (v : Value) (u13 u75 u76 u77 u78 u79 u80 u81 u82 u83 u84 u85 : Value) (w' : World), w'.ownsRow w.heap.size 3 1 v (mays l nr).length (nums (mays l nr)) → Below w.heap.size w w' → Q (.exit 6) ⟨List.toArray (c0 :: c1 :: c2 :: c3 :: c4 :: c5 :: c6 :: c7 :: c8 :: c9 :: .slice ar nr cr :: c11 :: v :: u13 :: c14 :: c15 :: c16 :: c17 :: c18 :: c19 :: c20 :: c21 :: c22 :: c23 :: c24 :: c25 :: c26 :: c27 :: c28 :: c29 :: c30 :: c31 :: c32 :: c33 :: c34 :: c35 :: c36 :: c37 :: c38 :: c39 :: c40 :: c41 :: c42 :: c43 :: c44 :: c45 :: c46 :: c47 :: c48 :: c49 :: c50 :: c51 :: c52 :: c53 :: c54 :: c55 :: c56 :: c57 :: c58 :: c59 :: c60 :: c61 :: c62 :: c63 :: c64 :: c65 :: c66 :: c67 :: c68 :: c69 :: c70 :: c71 :: c72 :: c73 :: .int .i64 nr :: u75 :: u76 :: u77 :: u78 :: u79 :: u80 :: u81 :: u82 :: u83 :: u84 :: u85 :: c86 :: c87 :: c88 :: c89 :: c90 :: c91 :: c92 :: c93 :: c94 :: c95 :: c96 :: c97 :: c98 :: c99 :: c100 :: c101 :: c102 :: c103 :: c104 :: c105 :: c106 :: c107 :: c108 :: c109 :: c110 :: c111 :: c112 :: c113 :: c114 :: c115 :: c116 :: c117 :: c118 :: c119 :: c120 :: c121 :: c122 :: c123 :: c124 :: c125 :: c126 :: c127 :: c128 :: c129 :: c130 :: c131 :: c132 :: c133 :: c134 :: c135 :: c136 :: c137 :: c138 :: c139 :: c140 :: c141 :: c142 :: c143 :: c144 :: c145 :: c146 :: []), []⟩ w')) :
    Code.wp Tryd.prog (lp 3) Q ⟨List.toArray (c0 :: c1 :: c2 :: c3 :: c4 :: c5 :: c6 :: c7 :: c8 :: c9 :: .slice ar nr cr :: c11 :: .slice none 0 0 :: c13 :: c14 :: c15 :: c16 :: c17 :: c18 :: c19 :: c20 :: c21 :: c22 :: c23 :: c24 :: c25 :: c26 :: c27 :: c28 :: c29 :: c30 :: c31 :: c32 :: c33 :: c34 :: c35 :: c36 :: c37 :: c38 :: c39 :: c40 :: c41 :: c42 :: c43 :: c44 :: c45 :: c46 :: c47 :: c48 :: c49 :: c50 :: c51 :: c52 :: c53 :: c54 :: c55 :: c56 :: c57 :: c58 :: c59 :: c60 :: c61 :: c62 :: c63 :: c64 :: c65 :: c66 :: c67 :: c68 :: c69 :: c70 :: c71 :: c72 :: c73 :: .int .i64 nr :: .int .i64 0 :: c76 :: c77 :: c78 :: c79 :: c80 :: c81 :: c82 :: c83 :: c84 :: c85 :: c86 :: c87 :: c88 :: c89 :: c90 :: c91 :: c92 :: c93 :: c94 :: c95 :: c96 :: c97 :: c98 :: c99 :: c100 :: c101 :: c102 :: c103 :: c104 :: c105 :: c106 :: c107 :: c108 :: c109 :: c110 :: c111 :: c112 :: c113 :: c114 :: c115 :: c116 :: c117 :: c118 :: c119 :: c120 :: c121 :: c122 :: c123 :: c124 :: c125 :: c126 :: c127 :: c128 :: c129 :: c130 :: c131 :: c132 :: c133 :: c134 :: c135 :: c136 :: c137 :: c138 :: c139 :: c140 :: c141 :: c142 :: c143 :: c144 :: c145 :: c146 :: []), []⟩ w := by
  obtain ⟨i0, hi, hz0, hz1, hz2⟩ := info_parts Tryd.info3
  have HI := Lib.hid hi; have HZ0 := Lib.hid hz0; have HZ1 := Lib.hid hz1; have HZ2 := Lib.hid hz2
  clear hi hz0 hz1 hz2
  conv => arg 2; whnf
  go_loopw [12, 75] (fun s12 i wr => ∃ k : Nat, k ≤ nr ∧ i = .int .i64 k ∧ wr.ownsRow w.heap.size 3 1 s12 (mays l k).length (nums (mays l k)) ∧ Below w.heap.size w wr) (fun _ i _ => 8 - (intOf i).toNat)
  case atStart => exact ⟨0, by omega, rfl, ⟨rfl, .inl ⟨rfl, rfl⟩⟩, Below.refl _ _⟩
  case round =>
    obtain ⟨k, hkn, rfl, hown, hbe⟩ := hrel
    have HOW := Lib.hid hown; have HBE := Lib.hid hbe
    clear hown hbe
    by_cases hk : k < nr
    · have hml := mays_le l k
      go_wp2_with fail
      refine (mayAt_ok ar cr l nr k _ HN.out hcr hcr2.out (HK.out.below HBE.out) (HE.out.below HBE.out) HO.out).mono ?_
      rintro ε w2 ⟨rfl, hb2⟩
      have HOW2 := Lib.hid (own_below HOW.out hb2)
      have B2 := Lib.hid (HBE.out.trans (hb2.mono HBE.out.size))
      have hz2 : w.heap.size ≤ w2.heap.size := B2.out.size
      clear hb2
      cases hm : mayAt l k
      · have HME := Lib.hid (mays_no hm)
        go_wp2_with fail
        go_roundw
        case rel => exact ⟨k + 1, by omega, by go_num, by rw [HME.out]; exact HOW2.out, B2.out⟩
        case measure => simp [intOf]; omega
      · have HME := Lib.hid (mays_yes hm)
        obtain ⟨ml, hmle⟩ : ∃ ml, (mays l k).length = ml := ⟨_, rfl⟩
        have HML := Lib.hid hmle
        rw [hmle] at hml
        clear hmle
        go_wp2_with (at_builtin; refine wpList_append_own _ rfl _ _ 23 rfl w.heap.size 3 i0 _ 1 8 Tryd.underlying23 HI.out HZ0.out HZ1.out HZ2.out rfl (by decide) _ (mays l k).length (nums (mays l k)) rfl (HOW2.out.alloc _) ⟨w2.heap.size, 0, none⟩ 1 1 [.int .i64 (k : Int)] rfl rfl ?c1 ?c2 ?c3 ?c4 ?c5 ?_)
        case c1 => intro j u hu; cases j with
          | zero => simp at hu; subst hu; simp [go_sem, Addr.add]
          | succ j => simp at hu
        case c2 => simp [Value.oneCell']
        case c3 => unfold maxLen; have := HML.out; omega
        case c4 => have := HML.out; omega
        case c5 => simp; omega
        intro v' w3 hown3 hgr3 _
        have HOW3 := Lib.hid hown3
        have B3 := Lib.hid ((B2.out.alloc (by omega) _).grown hgr3 (by simp; omega) (fun q hq => (HOW2.out.lt q hq).1))
        clear hown3 hgr3
        go_wp2_with fail
        go_roundw
        case rel => exact ⟨k + 1, by omega, by go_num, by
          have h := HOW3.out
          rw [HME.out]
          have e1 : (mays l k ++ [k]).length = (mays l k).length + 1 := by simp
          have e2 : nums (mays l k ++ [k]) = nums (mays l k) ++ [.int .i64 (k : Int)] := by simp [nums]
          rw [e1, e2]
          exact h, B3.out⟩
        case measure => simp [intOf]; omega
    · obtain rfl : k = nr := by omega
      go_wp2_with fail
      exact hexit.out _ _ _ _ _ _ _ _ _ _ _ _ _ _ HOW.out HBE.out
end Go.Proofs.YtdmcmpbappjdoaaDoor
