import Derived.Test.YtgjkjoocnkdckaaGreatDoorZPureRul1
namespace Go.Proofs.YtgjkjoocnkdckaaGreatDoor.PureC
open Go.RowKit Go.Proofs.YtgjkjoocnkdckaaGreatDoor.PChk Go.Proofs.YtgjkjoocnkdckaaGreatDoor.G Go.Proofs.YtgjkjoocnkdckaaGreatDoorW.PrintWords Go.Proofs.YtgjkjoocnkdckaaGreatDoorW.PrintLast
set_option linter.unusedSimpArgs false
theorem bt_list (s : ByteArray) (l : List UInt8) (i : Nat) (c : UInt8) (h : s.data.toList = l) (hc : l[i]? = some c) : bt s (i : Int) = (c.toNat : Int) := by
  have hi : i < s.size := by
    have h1 := (List.getElem?_eq_some_iff.1 hc).1
    rw [← h, list_len] at h1
    exact h1
  rw [bt_of s i hi]
  rw [← h] at hc
  have e : s.data.toList[i]? = some s[i] := by rw [List.getElem?_eq_getElem (by rw [list_len]; exact hi)]; rfl
  rw [e] at hc
  rw [Option.some.inj hc]
end Go.Proofs.YtgjkjoocnkdckaaGreatDoor.PureC
