/- Layer 9: two entries compared. -/
import Derived.Test.YtdmcmpbappjdoaaDoorP1
import Derived.Laws.StructEq
namespace Go.Proofs.YtdmcmpbappjdoaaDoor
open Go.ChangeShapes Go.WideShapes Go.ChangeAt Go.RowKit
open Go
theorem eq_run (a b : Ent) (w : World) : (binOp .eql 31 (.agg #[.int .i8 a.k, .int .u64 a.wd, .int .u64 a.v, .int .i64 a.fr, .int .i64 a.fm]) (.agg #[.int .i8 b.k, .int .u64 b.wd, .int .u64 b.v, .int .i64 b.fr, .int .i64 b.fm])).run Tryd.prog w = .ok (.bool (eqE a b)) w := by
  go_simp
  unfold eqE
  by_cases h1 : a.k = b.k
  · by_cases h2 : a.wd = b.wd
    · by_cases h3 : a.v = b.v
      · by_cases h4 : a.fr = b.fr
        · by_cases h5 : a.fm = b.fm <;> simp [h1, h2, h3, h4, h5]
        · simp [h1, h2, h3, h4]
      · simp [h1, h2, h3]
    · simp [h1, h2]
  · simp [h1]
theorem ne_run (a b : Ent) (w : World) : (binOp .neq 31 (.agg #[.int .i8 a.k, .int .u64 a.wd, .int .u64 a.v, .int .i64 a.fr, .int .i64 a.fm]) (.agg #[.int .i8 b.k, .int .u64 b.wd, .int .u64 b.v, .int .i64 b.fr, .int .i64 b.fm])).run Tryd.prog w = .ok (.bool (!eqE a b)) w := by
  go_simp
  unfold eqE
  by_cases h1 : a.k = b.k
  · by_cases h2 : a.wd = b.wd
    · by_cases h3 : a.v = b.v
      · by_cases h4 : a.fr = b.fr
        · by_cases h5 : a.fm = b.fm <;> simp [h1, h2, h3, h4, h5]
        · simp [h1, h2, h3, h4]
      · simp [h1, h2, h3]
    · simp [h1, h2]
  · simp [h1]
end Go.Proofs.YtdmcmpbappjdoaaDoor
