import Derived.Test.YtgjkjoocnkdckaaGreatDoorZPureRul5
import Derived.Test.YtgjkjoocnkdckaaGreatDoorZGRulUn
namespace Go.Proofs.YtgjkjoocnkdckaaGreatDoor.PureC
open Go.RowKit Go.Proofs.YtgjkjoocnkdckaaGreatDoor.PChk Go.Proofs.YtgjkjoocnkdckaaGreatDoor.G Go.Proofs.YtgjkjoocnkdckaaGreatDoorW.PrintWords Go.Proofs.YtgjkjoocnkdckaaGreatDoorW.PrintLast
set_option linter.unusedSimpArgs false
theorem parseM_form : ∀ (ps : List ByteArray) (acc : List Rl) (ln : Int), (parseM ps acc ln).2.2 = 0 ∧ (parseM ps acc ln).2.1 = 0 ∨ (parseM ps acc ln).2.2 ≠ 0 ∧ (parseM ps acc ln).1 = [] ∧ ln + 1 ≤ (parseM ps acc ln).2.1 ∧ (parseM ps acc ln).2.1 ≤ ln + ps.length
  | [], acc, ln => .inl ⟨rfl, rfl⟩
  | p :: ps, acc, ln => by
    have step : ∀ acc', (parseM ps acc' (ln + 1)).2.2 = 0 ∧ (parseM ps acc' (ln + 1)).2.1 = 0 ∨ (parseM ps acc' (ln + 1)).2.2 ≠ 0 ∧ (parseM ps acc' (ln + 1)).1 = [] ∧ ln + 1 ≤ (parseM ps acc' (ln + 1)).2.1 ∧ (parseM ps acc' (ln + 1)).2.1 ≤ ln + (p :: ps).length := fun acc' => by
      rcases parseM_form ps acc' (ln + 1) with h | ⟨h1, h2, h3, h4⟩
      · exact .inl h
      · exact .inr ⟨h1, h2, by omega, by simp only [List.length_cons]; omega⟩
    rw [parseM]
    split
    · exact step acc
    · split
      · split
        · exact .inr ⟨by show (4 : Int) ≠ 0; decide, rfl, Int.le_refl _, by simp only [List.length_cons]; omega⟩
        · exact step _
      · exact .inr ⟨by show (6 : Int) ≠ 0; decide, rfl, Int.le_refl _, by simp only [List.length_cons]; omega⟩
theorem splitOn_nn (b : UInt8) : ∀ l : List UInt8, splitOn b l ≠ []
  | [] => by simp [splitOn]
  | c :: l => by
    rw [splitOn]
    split <;> simp
theorem unl_len : ∀ (l : List Rl) (i : Nat), (unlGo l i).length = l.length
  | [], i => rfl
  | x :: l, i => by rw [unlGo, List.length_cons, List.length_cons, unl_len l (i + 1)]
end Go.Proofs.YtgjkjoocnkdckaaGreatDoor.PureC
