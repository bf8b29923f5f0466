import Derived.Test.YtgjkjoocnkdckaaGreatDoorZPChk12
import Derived.Test.YtgjkjoocnkdckaaGreatDoorZPureRul9
namespace Go.Proofs.YtgjkjoocnkdckaaGreatDoor.PureC
open Go.RowKit Go.Proofs.YtgjkjoocnkdckaaGreatDoor.PChk Go.Proofs.YtgjkjoocnkdckaaGreatDoor.G Go.Proofs.YtgjkjoocnkdckaaGreatDoor.PureD Go.Proofs.YtgjkjoocnkdckaaGreatDoorW.PrintWords Go.Proofs.YtgjkjoocnkdckaaGreatDoorW.PrintLast
set_option linter.unusedSimpArgs false
theorem rd_rb (l : List Rl) (i : Nat) (h : i < l.length) : rd_T47 l (i : Int) = l[i] := by
  unfold rd_T47
  rw [show ((i : Int)).toNat = i from rfl, List.getD_eq_getElem?_getD, List.getElem?_eq_getElem h]
  rfl
def longB8 (x : Rl) : Bool := decide (50 < x.f1.size ∨ 50 < x.f2.size)
theorem long_go8 (l : List Rl) (hl : l.length ≤ 500) : ∀ (n k i : Nat), i + n = l.length → n + 1 ≤ k → w8_long.l0 k l (i : Int) = some ((l.drop i).any longB8)
  | 0, k, i, hi, hk => by
    obtain ⟨k, rfl⟩ : ∃ m, k = m + 1 := ⟨k - 1, by omega⟩
    rw [w8_long.l0, if_neg (by omega), List.drop_of_length_le (by omega)]
    rfl
  | n + 1, k, i, hi, hk => by
    obtain ⟨k, rfl⟩ : ∃ m, k = m + 1 := ⟨k - 1, by omega⟩
    have hlt : i < l.length := by omega
    have hd : l.drop i = l[i] :: l.drop (i + 1) := List.drop_eq_getElem_cons hlt
    rw [w8_long.l0, if_pos (by omega), if_pos (by omega), rd_rb l i hlt, hd, List.any_cons, wrap_of (by omega) (by omega), show ((i : Int) + 1) = ((i + 1 : Nat) : Int) from by omega, long_go8 l hl n k (i + 1) (by omega) (by omega)]
    unfold longB8
    by_cases h1 : (l[i].f1.size : Int) > 50
    · rw [if_pos h1, decide_eq_true (Or.inl (by omega)), Bool.true_or]
    · rw [if_neg h1]
      by_cases h2 : (l[i].f2.size : Int) > 50
      · rw [if_pos h2, decide_eq_true (Or.inr (by omega)), Bool.true_or]
      · rw [if_neg h2, decide_eq_false (by omega), Bool.false_or]
theorem long_is8 (l : List Rl) (k : Nat) (hk : 600 ≤ k) : w8_long.f k l = some true ∨ (w8_long.f k l = some false ∧ l.length ≤ 500 ∧ ∀ x ∈ l, x.f1.size ≤ 50 ∧ x.f2.size ≤ 50) := by
  unfold w8_long.f
  by_cases h : (l.length : Int) > 500
  · exact Or.inl (if_pos h)
  · rw [if_neg h]
    have hg := long_go8 l (by omega) l.length k 0 (by omega) (by omega)
    rw [show ((0 : Nat) : Int) = 0 from rfl, List.drop_zero] at hg
    cases ha : l.any longB8 with
    | true => exact Or.inl (by rw [hg, ha])
    | false =>
      refine Or.inr ⟨by rw [hg, ha], by omega, fun x hx => ?_⟩
      have h1 : longB8 x = false := Bool.eq_false_iff.2 fun h => by
        have h2 : l.any longB8 = true := List.any_eq_true.2 ⟨x, hx, h⟩
        rw [ha] at h2
        cases h2
      unfold longB8 at h1
      rw [decide_eq_false_iff_not] at h1
      exact ⟨by omega, by omega⟩
end Go.Proofs.YtgjkjoocnkdckaaGreatDoor.PureC
