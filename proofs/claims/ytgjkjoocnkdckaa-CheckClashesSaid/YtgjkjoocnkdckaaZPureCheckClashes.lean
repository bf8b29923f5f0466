import Derived.Test.YtgjkjoocnkdckaaZPureChkParts1
import Derived.Test.YtgjkjoocnkdckaaZPClash0
import Derived.Test.YtgjkjoocnkdckaaZPClash1
namespace Go.Proofs.Ytgjkjoocnkdckaa.PureC
open Go.RowKit Go.Proofs.Ytgjkjoocnkdckaa.PChk Go.Proofs.Ytgjkjoocnkdckaa.G Go.Proofs.YtgjkjoocnkdckaaW.PrintWords Go.Proofs.YtgjkjoocnkdckaaW.PrintLast
set_option linter.unusedSimpArgs false
theorem contains_in (a : List UInt8) : ∀ l : List UInt8, Lib.contains l a = inL a l
  | [] => by
    unfold Lib.contains Lib.index inL
    cases a <;> rfl
  | b :: l => by
    have ih := contains_in a l
    have hge := Lib.index_ge l a
    unfold Lib.contains at ih ⊢
    unfold Lib.index inL
    rw [← ih]
    by_cases h : a.isPrefixOf (b :: l) = true
    · rw [if_pos h, h]; rfl
    · rw [if_neg h, Bool.eq_false_iff.2 h, Bool.false_or]
      by_cases h3 : Lib.index l a = -1
      · rw [h3]; rfl
      · rw [beq_eq_false_iff_ne.2 h3]
        simp only [Bool.false_eq_true, if_false, decide_eq_decide]
        omega
theorem contains_checkA (a b : ByteArray) (hb : b.size ≤ 100000) : strings_ContainsA.f b a = some (inL a.toList b.toList) := by
  unfold strings_ContainsA.f
  rw [if_pos (by omega), contains_in, ByteArray.toList_eq, ByteArray.toList_eq]
theorem spoils_checkA (x y : S23) (k : Nat) (hk : 1 ≤ k) (hy0 : y.f2.size ≤ 100000) : check_spoilsA.f k x.f0 x.f1 x.f2 x.f3 x.f4 y.f0 y.f1 y.f2 y.f3 y.f4 = some (spoilsB x y) := by
  obtain ⟨k, rfl⟩ : ∃ m, k = m + 1 := ⟨k - 1, by omega⟩
  unfold check_spoilsA.f spoilsB
  have hj : ∀ b, check_spoilsA.j0 (k + 1) b x.f0 x.f1 x.f2 x.f3 x.f4 y.f0 y.f1 y.f2 y.f3 y.f4 = some (b || (x.f0 == 8 && y.f0 == 5 && beg x.f2 y.f2)) := by
    intro b
    rw [check_spoilsA.j0, beg_check]
    by_cases h0 : x.f0 = 8 <;> by_cases h1 : y.f0 = 5 <;> cases b <;> simp [h0, h1]
  rw [kept_check, Option.bind_some]
  by_cases h : keptB x = true
  · rw [if_pos h, contains_checkA _ _ hy0, Option.bind_some, hj, h, Bool.true_and]
  · rw [if_neg h, hj, Bool.eq_false_iff.2 h, Bool.false_and]
theorem clash_rowA (x y : S23) (k : Nat) (hk : 8 ≤ k) (row : Int) (h1 : 1 ≤ row) (h3 : row ≤ 3) : check_ClashA.l0 (k + 1) row x.f0 x.f1 x.f2 x.f3 x.f4 y.f0 y.f1 y.f2 y.f3 y.f4 = if rowB x y row = true then some true else check_ClashA.l0 k (row + 1) x.f0 x.f1 x.f2 x.f3 x.f4 y.f0 y.f1 y.f2 y.f3 y.f4 := by
  rw [check_ClashA.l0, if_pos h3, in_check k hk, in_check k hk, begins_check, wrap_of (by omega) (by omega)]
  unfold rowB
  cases inB x.f0 row <;> cases inB y.f0 row <;> cases beg x.f2 y.f2 <;> cases beg y.f2 x.f2 <;> rfl
theorem clash_lastA (x y : S23) (k : Nat) (hk : 1 ≤ k) (hx : x.f2.size ≤ 100000) (hy : y.f2.size ≤ 100000) : check_ClashA.l0 (k + 1) 4 x.f0 x.f1 x.f2 x.f3 x.f4 y.f0 y.f1 y.f2 y.f3 y.f4 = some (spoilsB x y || spoilsB y x) := by
  rw [check_ClashA.l0, if_neg (by decide), spoils_checkA x y k hk hy, spoils_checkA y x k hk hx]
  cases spoilsB x y <;> cases spoilsB y x <;> rfl
theorem clash_checkA (x y : S23) (k : Nat) (hk : 16 ≤ k) (hx : x.f2.size ≤ 100000) (hy : y.f2.size ≤ 100000) : check_ClashA.f k x.f0 x.f1 x.f2 x.f3 x.f4 y.f0 y.f1 y.f2 y.f3 y.f4 = some (clashB x y) := by
  obtain ⟨k, rfl⟩ : ∃ m, k = m + 13 := ⟨k - 13, by omega⟩
  have r1 : check_ClashA.l0 (k + 12) 1 x.f0 x.f1 x.f2 x.f3 x.f4 y.f0 y.f1 y.f2 y.f3 y.f4 = if rowB x y 1 = true then some true else check_ClashA.l0 (k + 11) 2 x.f0 x.f1 x.f2 x.f3 x.f4 y.f0 y.f1 y.f2 y.f3 y.f4 := clash_rowA x y (k + 11) (by omega) 1 (by decide) (by decide)
  have r2 : check_ClashA.l0 (k + 11) 2 x.f0 x.f1 x.f2 x.f3 x.f4 y.f0 y.f1 y.f2 y.f3 y.f4 = if rowB x y 2 = true then some true else check_ClashA.l0 (k + 10) 3 x.f0 x.f1 x.f2 x.f3 x.f4 y.f0 y.f1 y.f2 y.f3 y.f4 := clash_rowA x y (k + 10) (by omega) 2 (by decide) (by decide)
  have r3 : check_ClashA.l0 (k + 10) 3 x.f0 x.f1 x.f2 x.f3 x.f4 y.f0 y.f1 y.f2 y.f3 y.f4 = if rowB x y 3 = true then some true else check_ClashA.l0 (k + 9) 4 x.f0 x.f1 x.f2 x.f3 x.f4 y.f0 y.f1 y.f2 y.f3 y.f4 := clash_rowA x y (k + 9) (by omega) 3 (by decide) (by decide)
  have hj : ∀ b, check_ClashA.j0 (k + 13) b x.f0 x.f1 x.f2 x.f3 x.f4 y.f0 y.f1 y.f2 y.f3 y.f4 = some (b || rowB x y 1 || rowB x y 2 || rowB x y 3 || spoilsB x y || spoilsB y x) := by
    intro b
    rw [check_ClashA.j0, r1, r2, r3, clash_lastA x y (k + 8) (by omega) hx hy]
    cases b <;> cases rowB x y 1 <;> cases rowB x y 2 <;> cases rowB x y 3 <;> rfl
  unfold check_ClashA.f clashB
  simp only [hj]
  by_cases h0 : x.f0 = y.f0
  · rw [if_pos h0, beq_iff_eq.2 h0, Bool.true_and]
    by_cases h1 : x.f1.toList = y.f1.toList
    · rw [if_pos h1, beq_iff_eq.2 h1]; simp
    · rw [if_neg h1, beq_eq_false_iff_ne.2 h1]
      by_cases h2 : x.f0 = 5
      · rw [if_pos h2, beq_iff_eq.2 h2]; simp
      · rw [if_neg h2, beq_eq_false_iff_ne.2 h2]; simp
  · rw [if_neg h0, beq_eq_false_iff_ne.2 h0, Bool.false_and]
theorem clashes_at (x y : S23) (a2 : Int) (k : Nat) (hk : 8000 ≤ k) : w9_CheckClashes.f k x.f0 x.f1 x.f2 x.f3 x.f4 y.f0 y.f1 y.f2 y.f3 y.f4 a2 = some true := by
  have hawk := awake_is k (by omega)
  unfold w9_CheckClashes.f
  show (w9_long.f k [x, y]).bind _ = _
  rcases long_is [x, y] k (by omega) with h | ⟨h, _, hs⟩
  · rw [h, Option.bind_some, if_pos rfl, hawk, Option.bind_some]
  · have sx := hs x (by simp)
    have sy := hs y (by simp)
    have z1 := sx.1
    have z2 := sx.2
    have z3 := sy.1
    have z4 := sy.2
    rw [h, Option.bind_some, if_neg (by decide), clash_checkA x y k (by omega) (by omega) (by omega), Option.bind_some, clash_ref x y k (by omega) (by omega) (by omega), Option.bind_some, if_pos (beq_self_eq_true _), clash_checkA y x k (by omega) (by omega) (by omega), Option.bind_some,
      Option.bind_some, clash_swap y x, if_pos (beq_self_eq_true _), alone_check x k (by omega) (by omega) (by omega), Option.bind_some, alone_ref x k (by omega) (by omega) (by omega), Option.bind_some, if_pos (beq_self_eq_true _),
      in_check k (by omega), Option.bind_some, in_ref k (by omega), Option.bind_some, if_pos (beq_self_eq_true _), in_check k (by omega), Option.bind_some, in_ref k (by omega), Option.bind_some, if_pos (beq_self_eq_true _), hawk, Option.bind_some]
theorem checkClashes_true (x y : S23) (a2 : Int) (_ : (Lit.int .i64 a2).wf = true) : ∃ k, w9_CheckClashes.f k x.f0 x.f1 x.f2 x.f3 x.f4 y.f0 y.f1 y.f2 y.f3 y.f4 a2 = some true := ⟨8000, clashes_at x y a2 8000 (Nat.le_refl _)⟩
end Go.Proofs.Ytgjkjoocnkdckaa.PureC
