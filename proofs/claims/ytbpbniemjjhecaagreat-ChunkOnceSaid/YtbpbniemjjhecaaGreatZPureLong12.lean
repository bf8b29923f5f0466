import Derived.Test.YtbpbniemjjhecaaGreatZGChunk3
import Derived.Test.YtbpbniemjjhecaaGreatZPChk23
namespace Go.Proofs.YtbpbniemjjhecaaGreat.PureC
open Go.RowKit Go.Proofs.YtbpbniemjjhecaaGreat.PChk Go.Proofs.YtbpbniemjjhecaaGreat.G Go.Proofs.YtbpbniemjjhecaaGreat.GT Go.Proofs.YtbpbniemjjhecaaGreatW.PrintWords Go.Proofs.YtbpbniemjjhecaaGreatW.PrintLast
set_option linter.unusedSimpArgs false
def longB12 (x : S50) : Bool := decide (50 < x.f1.size ∨ 50 < x.f2.size)
theorem long_go12 (l : List S50) (hl : l.length ≤ 450) : ∀ (n k i : Nat), i + n = l.length → n + 1 ≤ k → long12.l0 k l (i : Int) = some ((l.drop i).any longB12)
 | 0, k, i, hi, hk => by
  obtain ⟨k, rfl⟩ : ∃ m, k = m + 1 := ⟨k - 1, by omega⟩
  rw [long12.l0, if_neg (by omega), List.drop_of_length_le (by omega)]
  rfl
 | n + 1, k, i, hi, hk => by
  obtain ⟨k, rfl⟩ : ∃ m, k = m + 1 := ⟨k - 1, by omega⟩
  have hlt : i < l.length := by omega
  have hd : l.drop i = l[i] :: l.drop (i + 1) := List.drop_eq_getElem_cons hlt
  rw [long12.l0, if_pos (by omega), if_pos (by omega), rd23 l i hlt, hd, List.any_cons, wrap_of (by omega) (by omega), show ((i : Int) + 1) = ((i + 1 : Nat) : Int) from by omega, long_go12 l hl n k (i + 1) (by omega) (by omega)]
  unfold longB12
  by_cases h1 : (l[i].f1.size : Int) > 50
  ·
   rw [if_pos h1, decide_eq_true (Or.inl (by omega)), Bool.true_or]
  ·
   rw [if_neg h1]
   by_cases h2 : (l[i].f2.size : Int) > 50
   ·
    rw [if_pos h2, decide_eq_true (Or.inr (by omega)), Bool.true_or]
   ·
    rw [if_neg h2, decide_eq_false (by omega), Bool.false_or]
theorem long_is12 (l : List S50) (k : Nat) (hk : 500 ≤ k) : long12.f k l = some true ∨ (long12.f k l = some false ∧ l.length ≤ 450 ∧ ∀ x ∈ l, Short x) := by
 unfold long12.f
 by_cases h : (l.length : Int) > 450
 ·
  exact Or.inl (if_pos h)
 ·
  rw [if_neg h]
  have hg := long_go12 l (by omega) l.length k 0 (by omega) (by omega)
  rw [show ((0 : Nat) : Int) = 0 from rfl, List.drop_zero] at hg
  cases ha : l.any longB12 with
  | true => exact Or.inl (by rw [hg, ha])
  | false =>
   refine Or.inr ⟨by rw [hg, ha], by omega, fun x hx => ?_⟩
   have h1 : longB12 x = false := Bool.eq_false_iff.2 fun h => by
    have h2 : l.any longB12 = true := List.any_eq_true.2 ⟨x, hx, h⟩
    rw [ha] at h2
    cases h2
   unfold longB12 at h1
   rw [decide_eq_false_iff_not] at h1
   exact ⟨by omega, by omega⟩
end Go.Proofs.YtbpbniemjjhecaaGreat.PureC
