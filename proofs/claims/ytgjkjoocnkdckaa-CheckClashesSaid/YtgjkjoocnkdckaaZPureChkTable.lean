import Derived.Test.YtgjkjoocnkdckaaZPureChkAwake
import Derived.Test.YtgjkjoocnkdckaaZPureChkAlone2
namespace Go.Proofs.Ytgjkjoocnkdckaa.PureC
open Go.RowKit Go.Proofs.Ytgjkjoocnkdckaa.PChk Go.Proofs.Ytgjkjoocnkdckaa.G Go.Proofs.YtgjkjoocnkdckaaW.PrintWords Go.Proofs.YtgjkjoocnkdckaaW.PrintLast
set_option linter.unusedSimpArgs false
theorem rd23 (l : List S23) (i : Nat) (h : i < l.length) : rd_T23 l (i : Int) = l[i] := by
  unfold rd_T23
  rw [show ((i : Int)).toNat = i from by omega, List.getD_eq_getElem?_getD, List.getElem?_eq_getElem h]
  rfl
def Short (x : S23) : Prop := x.f1.size ≤ 50 ∧ x.f2.size ≤ 50
end Go.Proofs.Ytgjkjoocnkdckaa.PureC
