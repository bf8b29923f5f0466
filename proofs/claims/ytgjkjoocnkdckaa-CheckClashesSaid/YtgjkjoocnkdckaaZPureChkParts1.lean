import Derived.Test.YtgjkjoocnkdckaaZPureCheckTables
import Derived.Laws.BitsLemmas
namespace Go.Proofs.Ytgjkjoocnkdckaa.PureC
open Go.RowKit Go.Proofs.Ytgjkjoocnkdckaa.PChk Go.Proofs.Ytgjkjoocnkdckaa.G Go.Proofs.YtgjkjoocnkdckaaW.PrintWords Go.Proofs.YtgjkjoocnkdckaaW.PrintLast
set_option linter.unusedSimpArgs false
theorem beq_swap (a b : List UInt8) : (a == b) = (b == a) := by
  rw [Bool.eq_iff_iff, beq_iff_eq, beq_iff_eq]
  exact eq_comm
theorem row_swap (x y : S23) (r : Int) : rowB x y r = rowB y x r := by
  unfold rowB
  cases inB x.f0 r <;> cases inB y.f0 r <;> cases beg x.f2 y.f2 <;> cases beg y.f2 x.f2 <;> rfl
theorem clash_swap (x y : S23) : clashB x y = clashB y x := by
  have h1 : (x.f0 == y.f0 && (x.f1.toList == y.f1.toList || x.f0 == 5 && x.f2.toList == y.f2.toList)) = (y.f0 == x.f0 && (y.f1.toList == x.f1.toList || y.f0 == 5 && y.f2.toList == x.f2.toList)) := by
    rw [beq_swap x.f1.toList, beq_swap x.f2.toList]
    by_cases h : x.f0 = y.f0
    · rw [h]
    · rw [beq_eq_false_iff_ne.2 h, beq_eq_false_iff_ne.2 (Ne.symm h), Bool.false_and, Bool.false_and]
  unfold clashB
  rw [h1, row_swap x y 1, row_swap x y 2, row_swap x y 3, Bool.or_assoc, Bool.or_comm (spoilsB x y), ← Bool.or_assoc]
end Go.Proofs.Ytgjkjoocnkdckaa.PureC
