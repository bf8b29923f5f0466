import Derived.Test.YtgjkjoocnkdckaaGreatDoorZPureRul4
import Derived.Test.YtgjkjoocnkdckaaGreatDoorZPChk4
namespace Go.Proofs.YtgjkjoocnkdckaaGreatDoor.PureC
open Go.RowKit Go.Proofs.YtgjkjoocnkdckaaGreatDoor.PChk Go.Proofs.YtgjkjoocnkdckaaGreatDoor.G Go.Proofs.YtgjkjoocnkdckaaGreatDoorW.PrintWords Go.Proofs.YtgjkjoocnkdckaaGreatDoorW.PrintLast
set_option linter.unusedSimpArgs false
theorem same_go (l : List S47) (hl : l.length ≤ 100000) : ∀ (n k i : Nat), i + n = l.length → n + 1 ≤ k → r8_Same.l0 k l l (i : Int) = some true
  | 0, k, i, hi, hk => by
    obtain ⟨k, rfl⟩ : ∃ m, k = m + 1 := ⟨k - 1, by omega⟩
    rw [r8_Same.l0, if_neg (by omega)]
  | n + 1, k, i, hi, hk => by
    obtain ⟨k, rfl⟩ : ∃ m, k = m + 1 := ⟨k - 1, by omega⟩
    rw [r8_Same.l0, if_pos (by omega), if_pos (by omega), if_pos (by omega), if_neg (by simp), wrap_of (by omega) (by omega), show ((i : Int) + 1) = ((i + 1 : Nat) : Int) from by omega, same_go l hl n k (i + 1) (by omega) (by omega)]
theorem same_is (l : List S47) (hl : l.length ≤ 100000) (k : Nat) (hk : l.length + 1 ≤ k) : r8_Same.f k l l = some true := by
  unfold r8_Same.f
  rw [if_pos rfl]
  exact same_go l hl l.length k 0 (by omega) hk
set_option maxRecDepth 100000 in
theorem awake_is (k : Nat) (hk : 200 ≤ k) : w8_awake.f k = some true := by
  have h : w8_awake.f 200 = some true := by decide +kernel
  exact at_rounds (g := w8_awake.f) w8_awake.mono hk h
end Go.Proofs.YtgjkjoocnkdckaaGreatDoor.PureC
