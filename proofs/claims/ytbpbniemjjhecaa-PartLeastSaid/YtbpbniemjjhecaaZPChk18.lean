import Derived.Test.YtbpbniemjjhecaaZPChk0
namespace Go.Proofs.Ytbpbniemjjhecaa.PChk
open Go.RowKit Go.Proofs.Ytbpbniemjjhecaa.G Go.Proofs.YtbpbniemjjhecaaW.PrintWords Go.Proofs.YtbpbniemjjhecaaW.PrintLast Go.Proofs.YtbpbniemjjhecaaW.PrintMore
attribute [local go_sem] max2_int min2_int max_two min_two max_three min_three max_four min_four
set_option linter.unusedVariables false
set_option linter.unusedSimpArgs false
def r10_Word.l0 : Nat → List (S33) → ByteArray → Int → Option (Int × Bool)
 | 0, _, _, _ => none
 | k + 1, x0, x1, x6 => if x6 < (x0.length : Int) then (if 0 ≤ x6 then (if ((rd_T33 x0 x6).f0) = 5 then (if ((rd_T33 x0 x6).f2).toList = x1.toList then (some (x6, true)) else (r10_Word.l0 k x0 x1 (wrap64 (x6 + 1)))) else (r10_Word.l0 k x0 x1 (wrap64 (x6 + 1)))) else (none)) else (some (0, false))
def r10_Word.f (k : Nat) (l0 : List (S33)) (a1 : ByteArray) : Option (Int × Bool) := r10_Word.l0 k l0 a1 0
def r10_Find.l0 : Nat → List (S33) → Int → ByteArray → Int → Option (Int × Bool)
 | 0, _, _, _, _ => none
 | k + 1, x0, x1, x2, x8 => if x8 < (x0.length : Int) then (if 0 ≤ x8 then (if ((rd_T33 x0 x8).f0) = x1 then (if ((rd_T33 x0 x8).f1).toList = x2.toList then (some (x8, true)) else (r10_Find.l0 k x0 x1 x2 (wrap64 (x8 + 1)))) else (r10_Find.l0 k x0 x1 x2 (wrap64 (x8 + 1)))) else (none)) else (some (0, false))
def r10_Find.f (k : Nat) (l0 : List (S33)) (a1 : Int) (a2 : ByteArray) : Option (Int × Bool) := r10_Find.l0 k l0 a1 a2 0
def r10_Sign.f (k : Nat) (l0 : List (S33)) (a1 : ByteArray) : Option (ByteArray) := (r10_Find.f k l0 8 a1).bind fun bt307 => (if bt307.2 = true then (if 0 ≤ bt307.1 then (if bt307.1 < (l0.length : Int) then (some ((rd_T33 l0 bt307.1).f2)) else (none)) else (none)) else (some (⟨#[]⟩ : ByteArray)))
def w10_long.l0 : Nat → List (S33) → Int → Option (Bool)
 | 0, _, _ => none
 | k + 1, x0, x3 => if x3 < (x0.length : Int) then (if 0 ≤ x3 then (if (((rd_T33 x0 x3).f1).size : Int) > 50 then (some true) else (if (((rd_T33 x0 x3).f2).size : Int) > 50 then (some true) else (w10_long.l0 k x0 (wrap64 (x3 + 1))))) else (none)) else (some false)
def w10_long.f (k : Nat) (l0 : List (S33)) : Option (Bool) := if (l0.length : Int) > 450 then (some true) else (w10_long.l0 k l0 0)
end Go.Proofs.Ytbpbniemjjhecaa.PChk
