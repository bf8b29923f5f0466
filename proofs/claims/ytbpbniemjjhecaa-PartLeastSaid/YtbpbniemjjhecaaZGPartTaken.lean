import Derived.Test.YtbpbniemjjhecaaZGPartAw
import Derived.Test.YtbpbniemjjhecaaZPPar1
import Derived.Test.YtbpbniemjjhecaaZPChk0
import Derived.Test.YtbpbniemjjhecaaProg
import Derived.Below
import Derived.Deep.Draws
import Derived.Deep.AppendLies
import Derived.Maps.AppendAt
import Derived.OwnWalk
import Derived.Laws.BytesArg
import Derived.Laws.MakeOwn
import Derived.Laws.OwnMore
import Derived.Deep.OwnRows
import Derived.Tactics
import Derived.Lib.ConvBytes
import Derived.Laws.Slices
import Derived.WalkKit
import Derived.KernelRfl
import Derived.RowKit3
import Derived.Deep.LoopGhost
import Derived.Deep.QuietTactic
import Derived.BigQuiet
import Derived.WideLaws
import Derived.Deep.DeepCutAuto
import Derived.Deep.CutBlock
import Derived.Deep.RegionHeld3
import Derived.Laws.Rows
import Derived.Lib.AppendStr
import Derived.ArgAppend
import Derived.Laws.IdiomCopy
import Derived.OrdersHeld
import Derived.Laws.BitsLemmas
import Derived.RowKit
import Derived.Test.YtbpbniemjjhecaaZGCharsCase
import Derived.Test.YtbpbniemjjhecaaZPPar2
import Derived.Test.YtbpbniemjjhecaaZPPar3
import Derived.Test.YtbpbniemjjhecaaZPChk6
import Derived.Test.YtbpbniemjjhecaaZWSized
section
namespace Go.Proofs.Ytbpbniemjjhecaa.PureC
open Go.RowKit Go.Proofs.Ytbpbniemjjhecaa.PChk Go.Proofs.Ytbpbniemjjhecaa.G Go.Proofs.Ytbpbniemjjhecaa.GT Go.Proofs.YtbpbniemjjhecaaW.PrintWords Go.Proofs.YtbpbniemjjhecaaW.PrintLast
set_option linter.unusedSimpArgs false
def longB11 (x : S33) : Bool := decide (50 < x.f1.size ∨ 50 < x.f2.size)
theorem long_go11 (l : List S33) (hl : l.length ≤ 450) : ∀ (n k i : Nat), i + n = l.length → n + 1 ≤ k → w11_long.l0 k l (i : Int) = some ((l.drop i).any longB11)
 | 0, k, i, hi, hk => by
  obtain ⟨k, rfl⟩ : ∃ m, k = m + 1 := ⟨k - 1, by omega⟩
  rw [w11_long.l0, if_neg (by omega), List.drop_of_length_le (by omega)]
  rfl
 | n + 1, k, i, hi, hk => by
  obtain ⟨k, rfl⟩ : ∃ m, k = m + 1 := ⟨k - 1, by omega⟩
  have hlt : i < l.length := by omega
  have hd : l.drop i = l[i] :: l.drop (i + 1) := List.drop_eq_getElem_cons hlt
  rw [w11_long.l0, if_pos (by omega), if_pos (by omega), rd23 l i hlt, hd, List.any_cons, wrap_of (by omega) (by omega), show ((i : Int) + 1) = ((i + 1 : Nat) : Int) from by omega, long_go11 l hl n k (i + 1) (by omega) (by omega)]
  unfold longB11
  by_cases h1 : (l[i].f1.size : Int) > 50
  ·
   rw [if_pos h1, decide_eq_true (Or.inl (by omega)), Bool.true_or]
  ·
   rw [if_neg h1]
   by_cases h2 : (l[i].f2.size : Int) > 50
   ·
    rw [if_pos h2, decide_eq_true (Or.inr (by omega)), Bool.true_or]
   ·
    rw [if_neg h2, decide_eq_false (by omega), Bool.false_or]
theorem long_is11 (l : List S33) (k : Nat) (hk : 500 ≤ k) : w11_long.f k l = some true ∨ (w11_long.f k l = some false ∧ l.length ≤ 450 ∧ ∀ x ∈ l, Short x) := by
 unfold w11_long.f
 by_cases h : (l.length : Int) > 450
 ·
  exact Or.inl (if_pos h)
 ·
  rw [if_neg h]
  have hg := long_go11 l (by omega) l.length k 0 (by omega) (by omega)
  rw [show ((0 : Nat) : Int) = 0 from rfl, List.drop_zero] at hg
  cases ha : l.any longB11 with
  | true => exact Or.inl (by rw [hg, ha])
  | false =>
   refine Or.inr ⟨by rw [hg, ha], by omega, fun x hx => ?_⟩
   have h1 : longB11 x = false := Bool.eq_false_iff.2 fun h => by
    have h2 : l.any longB11 = true := List.any_eq_true.2 ⟨x, hx, h⟩
    rw [ha] at h2
    cases h2
   unfold longB11 at h1
   rw [decide_eq_false_iff_not] at h1
   exact ⟨by omega, by omega⟩
end Go.Proofs.Ytbpbniemjjhecaa.PureC
end
section
namespace Go.Proofs.Ytbpbniemjjhecaa.PChk
open Go.RowKit Go.Proofs.Ytbpbniemjjhecaa.G Go.Proofs.Ytbpbniemjjhecaa.PChk Go.Proofs.YtbpbniemjjhecaaW.PrintWords Go.Proofs.YtbpbniemjjhecaaW.PrintLast Go.Proofs.YtbpbniemjjhecaaW.PrintMore
attribute [local go_sem] max2_int min2_int max_two min_two max_three min_three max_four min_four
set_option linter.unusedVariables false
set_option linter.unusedSimpArgs false
mutual
def pTaken.j0 : Nat → List (S33) → ByteArray → Int → Tr → List Int → Bool → Option (Bool)
 | 0, _, _, _, _, _, _ => none
 | k + 1, x0, x1, x2, x7, x10, x49 => if x49 = true then (if (x10.length : Int) = 0 then ((w11_awake.f).bind fun t105 => (some t105)) else (some false)) else (pTaken.l0 k x0 x1 x7 x10 x2 0)
def pTaken.l0 : Nat → List (S33) → ByteArray → Tr → List Int → Int → Int → Option (Bool)
 | 0, _, _, _, _, _, _ => none
 | k + 1, x0, x1, x7, x10, x11, x12 => if x12 < (x10.length : Int) then ((part_Best.f x7 x1 x11 (x1.size : Int)).bind fun bt107 => (if bt107.2 = true then (if 0 ≤ x12 then (if bt107.1 = (rd x10 x12) then (if bt107.1 < 0 then (pTaken.j2 k x0 x1 x7 x10 x11 x12 bt107.1 true) else (if bt107.1 ≥ (x0.length : Int) then (pTaken.j2 k x0 x1 x7 x10 x11 x12 bt107.1 true) else ((part_All.f x7 x1 x11).bind fun t110 => (if x12 ≤ (x10.length : Int) then ((w11_same.f k t110 (x10.drop (x12 : Int).toNat)).bind fun t117 => (pTaken.j2 k x0 x1 x7 x10 x11 x12 bt107.1 (!t117))) else (none))))) else (pTaken.j2 k x0 x1 x7 x10 x11 x12 bt107.1 true)) else (none)) else (pTaken.j2 k x0 x1 x7 x10 x11 x12 bt107.1 true))) else (if x11 = (x1.size : Int) then ((w11_awake.f).bind fun t106 => (some t106)) else (some false))
def pTaken.j2 : Nat → List (S33) → ByteArray → Tr → List Int → Int → Int → Int → Bool → Option (Bool)
 | 0, _, _, _, _, _, _, _, _ => none
 | k + 1, x0, x1, x7, x10, x11, x12, x13, x102 => if x102 = true then (some false) else (if 0 ≤ x13 then (if x13 < (x0.length : Int) then (if (((rd_T33 x0 x13).f1).size : Int) < 1 then (some false) else (if (wrap64 (x11 + (((rd_T33 x0 x13).f1).size : Int))) > (x1.size : Int) then (some false) else (if 0 ≤ x11 then (if x11 ≤ (wrap64 (x11 + (((rd_T33 x0 x13).f1).size : Int))) then (if (wrap64 (x11 + (((rd_T33 x0 x13).f1).size : Int))) ≤ (x1.size : Int) then (if (x1.extract (x11 : Int).toNat ((wrap64 (x11 + (((rd_T33 x0 x13).f1).size : Int))) : Int).toNat).toList = ((rd_T33 x0 x13).f1).toList then (pTaken.l0 k x0 x1 x7 x10 (wrap64 (x11 + (((rd_T33 x0 x13).f1).size : Int))) (wrap64 (x12 + 1))) else (some false)) else (none)) else (none)) else (none)))) else (none)) else (none))
end
def pTaken.f (k : Nat) (l0 : List (S33)) (a1 : ByteArray) (a2 : Int) (a3 : Tr) : Option (Bool) := (part_All.f a3 a1 a2).bind fun t101 => ((chars_Case.f a1).bind fun t104 => (if t104 = 1 then (if a2 < 0 then (pTaken.j0 k l0 a1 a2 a3 t101 true) else (pTaken.j0 k l0 a1 a2 a3 t101 (decide (a2 ≥ (a1.size : Int))))) else (pTaken.j0 k l0 a1 a2 a3 t101 true)))
def pTaken.T14 : Bool × List (List Nat × List Nat) := (true, [([], []), ([0], [0]), ([1], [1]), ([2], [2]), ([2], [2]), ([2], [2]), ([4, 5, 2], [2, 4, 5]), ([6, 2], [2, 6]), ([3, 7, 2], [2, 3, 7]), ([2, 8], [2, 8]), ([9, 2], [9]), ([10], [10]), ([11, 10], [10, 11]), ([10, 12], [10, 12]), ([13, 10], [13]), ([14], [14]), ([14], [14]), ([16, 14], [14, 16]), ([15, 17, 14], [14, 15, 17]), ([14, 18], [14, 18]), ([19, 14], [19]), ([20], [20]), ([20], [20]), ([20], [20]), ([21, 22, 23, 20, 20], [20, 21, 22, 23]), ([20], [20]), ([20], [20]), ([25, 26, 20], [20, 25, 26]), ([24, 27, 24, 20], [20, 24, 27]), ([28, 20], [20, 28]), ([20, 29], [20, 29])])
def pTaken.B14 : List Nat := [0, 1, 3, 7, 7, 7, 55, 119, 255, 511, 1023, 2047, 4095, 8191, 16383, 32767, 32767, 98303, 262143, 524287, 1048575, 2097151, 2097151, 2097151, 16777215, 2097151, 2097151, 102760447, 268435455, 536870911, 1073741823]
def pTaken.T17 : Bool × List (List Nat × List Nat) := (true, [([], []), ([0], [0]), ([1], [1]), ([2], [2]), ([2], [2]), ([3, 4, 2], [2, 3, 4]), ([2], [2]), ([6, 2], [2, 6]), ([5, 7, 2], [2, 5, 7]), ([2, 8], [2, 8]), ([9, 2], [9]), ([10], [10]), ([10], [10]), ([10], [10]), ([10], [10]), ([13, 14, 10], [10, 13, 14]), ([11, 12, 15, 10], [10, 11, 12, 15]), ([10], [10]), ([10], [10]), ([17, 18, 10], [10, 17, 18]), ([19, 10], [10, 19]), ([20, 10], [10, 20]), ([16, 21, 10], [10, 16, 21]), ([10, 22], [10, 22])])
def pTaken.B17 : List Nat := [0, 1, 3, 7, 7, 31, 7, 71, 255, 511, 1023, 2047, 2047, 2047, 2047, 26623, 65535, 2047, 2047, 395263, 919551, 1968127, 4194303, 8388607]
end Go.Proofs.Ytbpbniemjjhecaa.PChk
end
