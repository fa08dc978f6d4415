/- AsidApart: a round of one that is gone. -/
import Derived.Test.YtbdphbkpglhhaaaB1
import Derived.Test.YtbdphbkpglhhaaaB2
import Derived.Test.YtbdphbkpglhhaaaB3
import Derived.Test.YtbdphbkpglhhaaaB4
import Derived.Deep.Cut
import Derived.Deep.CutRange
namespace Go.Proofs.Ytbdphbkpglhhaaa
open Go.ChangeShapes Go.WideShapes Go.ChangeAt Go.RowKit
set_option linter.unusedVariables false

set_option maxHeartbeats 1000000 in
set_option maxRecDepth 100000 in
theorem gone_round (Kc : Act → World → Prop) (Q : Exit → Act → World → Prop) (c1 c2 c3 c4 c6 c8 c9 c10 c11 c12 c13 c14 c15 c16 c17 c18 c19 c20 c21 c22 c23 c24 c25 c26 c27 c28 c29 c30 c31 c32 c33 c34 c35 c36 c37 c38 c39 c40 c44 c45 c46 c47 c48 c49 c50 c51 c52 c53 c54 c55 c56 c57 c58 c59 c60 c61 c62 c63 c64 c65 c66 c67 c68 c69 c70 c71 c72 c73 c74 c75 c76 c77 c78 c79 c80 c81 c82 c83 c84 c85 c86 c87 c88 c89 c90 c91 c92 c93 c94 c95 c96 c97 c98 c99 c100 c101 c102 c103 c104 c105 c106 c107 c108 c109 c110 c111 c112 c113 c114 c115 c116 c117 c118 c119 c120 c121 c122 c123 c124 c125 c126 c127 c128 c129 c130 c131 c132 c133 c134 c135 c136 c137 c138 c139 c140 c141 c142 c143 c144 c145 c146 c147 c148 c149 c150 c151 c152 c153 c154 c155 c156 c157 c158 c159 c160 c161 c162 c163 c164 c165 c166 c167 c168 c169 c170 c171 c172 c173 c174 c175 c176 c177 c178 c179 c180 c181 c182 c183 c184 c185 c186 c187 c188 c189 c190 c191 c192 c193 c194 : Value) (w : World) (b d N : Nat) (ao : Option Addr) (len cap k : Nat) (K S : Nat → Int) (RA : Nat → Option Addr) (RL RC : Nat → Nat) (RV : Nat → Nat → Int) (age : Int) (g ow : Nat → Int) (wr : World)
    (hN : N ≤ 16) (hbd : b < d) (hwd : w.heap.size ≤ b) (hbe1 : w.heap.size ≤ d) (hlk : k < len) (hage0 : 0 ≤ age) (hage1 : age ≤ k + 1) (h200 : len ≤ 200) (hcap : len ≤ 9223372036854775807) (H20 : Hid (∀ k, k < len → RL k ≤ 20)) (HA : Hid (Acts w ao len K S RA RL RC RV)) (HK : Hid ((K k == 1) = true)) (HI : Hid (Inj N g)) (HO : Hid (Own N g ow)) (HF : Hid (Fr w b d N age g ow wr))
    (hK : Hid (∀ (u4 u9 u10 u11 u12 u13 u14 u16 u17 u18 u19 u20 u21 u22 u23 u24 u25 u26 u27 u28 u44 u45 u46 u47 u48 u49 u50 u51 u52 u53 u54 u55 u56 u57 u58 u59 u60 u61 u62 u63 u64 u65 u66 u67 u68 u69 u70 u71 u72 u73 u74 u75 u76 u77 u78 u79 u80 u81 u82 u83 u84 u85 u86 u87 u88 u89 u90 u91 u92 u93 u94 u95 u96 u97 u98 u99 u100 u101 u102 u103 u104 u105 u106 u107 u108 u109 u110 u111 u112 u113 u114 u115 u116 u117 u118 u119 u120 u121 u122 u123 u124 u125 u126 u127 u128 u129 u130 u131 u132 u133 u134 u135 u136 u137 u138 u139 u140 u141 u142 u143 u144 u145 u146 u147 u148 u149 u150 u151 u152 u153 u154 u155 u156 u157 u158 u159 u160 u161 u162 u163 u164 u165 u166 u167 u168 u169 u170 u171 u172 u173 u174 u175 u176 u177 u178 u179 u180 u181 u182 u183 u184 u185 u186 u187 u188 u189 u190 u191 u192 u193 : Value) (g' ow' : Nat → Int) (age' : Int) (w' : World), Fr w b d N age' g' ow' w' → 0 ≤ age' → age' ≤ k + 1 + 1 → Inj N g' → Own N g' ow' → Kc ⟨List.toArray (.int .i64 N :: c1 :: c2 :: c3 :: u4 :: .pointer (some ⟨b, 0, none⟩) :: c6 :: .pointer (some ⟨d, 0, none⟩) :: c8 :: u9 :: u10 :: u11 :: u12 :: u13 :: u14 :: c15 :: u16 :: u17 :: u18 :: u19 :: u20 :: u21 :: u22 :: u23 :: u24 :: u25 :: u26 :: u27 :: u28 :: c29 :: c30 :: c31 :: c32 :: c33 :: c34 :: c35 :: c36 :: c37 :: c38 :: c39 :: c40 :: .slice ao len cap :: .int .i64 len :: .int .i64 (↑k + 1) :: u44 :: u45 :: u46 :: u47 :: u48 :: u49 :: u50 :: u51 :: u52 :: u53 :: u54 :: u55 :: u56 :: u57 :: u58 :: u59 :: u60 :: u61 :: u62 :: u63 :: u64 :: u65 :: u66 :: u67 :: u68 :: u69 :: u70 :: u71 :: u72 :: u73 :: u74 :: u75 :: u76 :: u77 :: u78 :: u79 :: u80 :: u81 :: u82 :: u83 :: u84 :: u85 :: u86 :: u87 :: u88 :: u89 :: u90 :: u91 :: u92 :: u93 :: u94 :: u95 :: u96 :: u97 :: u98 :: u99 :: u100 :: u101 :: u102 :: u103 :: u104 :: u105 :: u106 :: u107 :: u108 :: u109 :: u110 :: u111 :: u112 :: u113 :: u114 :: u115 :: u116 :: u117 :: u118 :: u119 :: u120 :: u121 :: u122 :: u123 :: u124 :: u125 :: u126 :: u127 :: u128 :: u129 :: u130 :: u131 :: u132 :: u133 :: u134 :: u135 :: u136 :: u137 :: u138 :: u139 :: u140 :: u141 :: u142 :: u143 :: u144 :: u145 :: u146 :: u147 :: u148 :: u149 :: u150 :: u151 :: u152 :: u153 :: u154 :: u155 :: u156 :: u157 :: u158 :: u159 :: u160 :: u161 :: u162 :: u163 :: u164 :: u165 :: u166 :: u167 :: u168 :: u169 :: u170 :: u171 :: u172 :: u173 :: u174 :: u175 :: u176 :: u177 :: u178 :: u179 :: u180 :: u181 :: u182 :: u183 :: u184 :: u185 :: u186 :: u187 :: u188 :: u189 :: u190 :: u191 :: u192 :: u193 :: c194 :: []), []⟩ w')) :
    Code.wp Try.prog body0 (Exit.then Kc Q) ⟨List.toArray (.int .i64 N :: c1 :: c2 :: c3 :: c4 :: .pointer (some ⟨b, 0, none⟩) :: c6 :: .pointer (some ⟨d, 0, none⟩) :: c8 :: c9 :: c10 :: c11 :: c12 :: c13 :: c14 :: c15 :: c16 :: c17 :: c18 :: c19 :: c20 :: c21 :: c22 :: c23 :: c24 :: c25 :: c26 :: c27 :: c28 :: c29 :: c30 :: c31 :: c32 :: c33 :: c34 :: c35 :: c36 :: c37 :: c38 :: c39 :: c40 :: .slice ao len cap :: .int .i64 len :: .int .i64 k :: c44 :: c45 :: c46 :: c47 :: c48 :: c49 :: c50 :: c51 :: c52 :: c53 :: c54 :: c55 :: c56 :: c57 :: c58 :: c59 :: c60 :: c61 :: c62 :: c63 :: c64 :: c65 :: c66 :: c67 :: c68 :: c69 :: c70 :: c71 :: c72 :: c73 :: c74 :: c75 :: c76 :: c77 :: c78 :: c79 :: c80 :: c81 :: c82 :: c83 :: c84 :: c85 :: c86 :: c87 :: c88 :: c89 :: c90 :: c91 :: c92 :: c93 :: c94 :: c95 :: c96 :: c97 :: c98 :: c99 :: c100 :: c101 :: c102 :: c103 :: c104 :: c105 :: c106 :: c107 :: c108 :: c109 :: c110 :: c111 :: c112 :: c113 :: c114 :: c115 :: c116 :: c117 :: c118 :: c119 :: c120 :: c121 :: c122 :: c123 :: c124 :: c125 :: c126 :: c127 :: c128 :: c129 :: c130 :: c131 :: c132 :: c133 :: c134 :: c135 :: c136 :: c137 :: c138 :: c139 :: c140 :: c141 :: c142 :: c143 :: c144 :: c145 :: c146 :: c147 :: c148 :: c149 :: c150 :: c151 :: c152 :: c153 :: c154 :: c155 :: c156 :: c157 :: c158 :: c159 :: c160 :: c161 :: c162 :: c163 :: c164 :: c165 :: c166 :: c167 :: c168 :: c169 :: c170 :: c171 :: c172 :: c173 :: c174 :: c175 :: c176 :: c177 :: c178 :: c179 :: c180 :: c181 :: c182 :: c183 :: c184 :: c185 :: c186 :: c187 :: c188 :: c189 :: c190 :: c191 :: c192 :: c193 :: c194 :: []), []⟩ wr := by
  conv => arg 2; whnf
  have hK1 := HK.out
  obtain ⟨ab, off, rfl, a⟩ := HA.out k hlk
  have a' := a.below HF.out.be
  have c0 := a'.c0
  have c1 := a'.c1
  have c2 := a'.c2
  have HAk := Lib.hid a'
  have hl := H20.out k hlk
  have hwx := HF.out.be.size
  have hdx := heap_lt HF.out.ow
  clear a a'
  have HX := Lib.hid (show (wr.alloc (actb (K k) (S k) (RA k) (RL k) (RC k))).heap[wr.heap.size]? = some (actb (K k) (S k) (RA k) (RL k) (RC k)) from heap_alloc_new _ _)
  have HGa := Lib.hid (HF.out.gi.alloc (actb (K k) (S k) (RA k) (RL k) (RC k)))
  have HOa := Lib.hid (alloc_block HF.out.ow (actb (K k) (S k) (RA k) (RL k) (RC k)))
  have HEa := Lib.hid (HF.out.be.alloc HF.out.be.size (actb (K k) (S k) (RA k) (RL k) (RC k)))
  have hsza : (wr.alloc (actb (K k) (S k) (RA k) (RL k) (RC k))).heap.size = wr.heap.size + 1 := by simp
  have HSZ := Lib.hid hsza
  clear hsza
  go_wp2_with fail
  clear c0 c1 c2
  refine (gone_ok b N age g (S k) _ HGa.out hN).mono ?_
  rintro e w2 ⟨rfl, hg2, hgr2⟩
  have HG2 := Lib.hid hg2
  have hszb := HSZ.out
  have HE2 := Lib.hid (below_only HEa.out hgr2 hwd (by omega))
  have HO2 := Lib.hid (only_block hgr2 HOa.out (by omega))
  have HX2 := Lib.hid (only_block hgr2 HX.out (by omega))
  clear hg2 hgr2 hszb HSZ
  cases hs : sOk (S k)
  · have hgs := gone_same (N := N) (g := g) hs
    have HGS := Lib.hid hgs
    clear hgs
    go_wp2_with fail
    exact hK.out _ _ _ _ _ _ _ _ _ _ _ _ _ _ _ _ _ _ _ _ _ _ _ _ _ _ _ _ _ _ _ _ _ _ _ _ _ _ _ _ _ _ _ _ _ _ _ _ _ _ _ _ _ _ _ _ _ _ _ _ _ _ _ _ _ _ _ _ _ _ _ _ _ _ _ _ _ _ _ _ _ _ _ _ _ _ _ _ _ _ _ _ _ _ _ _ _ _ _ _ _ _ _ _ _ _ _ _ _ _ _ _ _ _ _ _ _ _ _ _ _ _ _ _ _ _ _ _ _ _ _ _ _ _ _ _ _ _ _ _ _ _ _ _ _ _ _ _ _ _ _ _ _ _ _ _ _ _ _ _ _ _ _ _ _ _ _ _ _ _ _ _ _ _ (⟨HGS.out ▸ HG2.out, HO2.out, HE2.out⟩) (by omega) (by omega) (HI.out) (HO.out)
  · have hgo := (gone_own HI.out HO.out (S k)).resolve_right (by omega)
    have hgi := gone_inj HI.out (S k)
    have HGO := Lib.hid hgo; have HGI := Lib.hid hgi
    clear hgo hgi hs
    go_wp2_with fail
    refine wipe_loop _ _ _ _ _ _ _ _ _ _ _ _ _ _ _ _ _ _ _ _ _ _ _ _ _ _ _ _ _ _ _ _ _ _ _ _ _ _ _ _ _ _ _ _ _ _ _ _ _ _ _ _ _ _ _ _ _ _ _ _ _ _ _ _ _ _ _ _ _ _ _ _ _ _ _ _ _ _ _ _ _ _ _ _ _ _ _ _ _ _ _ _ _ _ _ _ _ _ _ _ _ _ _ _ _ _ _ _ _ _ _ _ _ _ _ _ _ _ _ _ _ _ _ _ _ _ _ _ _ _ _ _ _ _ _ _ _ _ _ _ _ _ _ _ _ _ _ _ _ _ _ _ _ _ _ _ _ _ _ _ _ _ _ _ _ _ _ _ _ _ _ _ _ _ _ _ _ _ _ _ _ _ _ _ _ _ _ _ _ _ _ _ _ w b d N wr.heap.size age (goneG N g (S k)) ow (K k) (S k) (RA k) (RL k) (RC k) _ hbd hdx (by omega) (Lib.hid ⟨HG2.out, HO2.out, HE2.out⟩) HX2 (Lib.hid ?_)
    intro v10 v55 v56 v57 v58 v59 v60 v61 v62 v63 v64 v65 v66 wk hf3
    have HF3 := Lib.hid hf3
    clear hf3
    go_wp2_with fail
    exact hK.out _ _ _ _ _ _ _ _ _ _ _ _ _ _ _ _ _ _ _ _ _ _ _ _ _ _ _ _ _ _ _ _ _ _ _ _ _ _ _ _ _ _ _ _ _ _ _ _ _ _ _ _ _ _ _ _ _ _ _ _ _ _ _ _ _ _ _ _ _ _ _ _ _ _ _ _ _ _ _ _ _ _ _ _ _ _ _ _ _ _ _ _ _ _ _ _ _ _ _ _ _ _ _ _ _ _ _ _ _ _ _ _ _ _ _ _ _ _ _ _ _ _ _ _ _ _ _ _ _ _ _ _ _ _ _ _ _ _ _ _ _ _ _ _ _ _ _ _ _ _ _ _ _ _ _ _ _ _ _ _ _ _ _ _ _ _ _ _ _ _ _ _ _ _ (HF3.out) (by omega) (by omega) (HGI.out) (HGO.out)
end Go.Proofs.Ytbdphbkpglhhaaa
