import Derived.Test.YtbpbniemjjhecaaGreatZPChk0
import Derived.Test.YtbpbniemjjhecaaGreatZPChk8
import Derived.Test.YtbpbniemjjhecaaGreatZGChkIndex
import Derived.Test.YtbpbniemjjhecaaGreatZPChk7
section
namespace Go.Proofs.YtbpbniemjjhecaaGreat.PChk
open Go.RowKit Go.Proofs.YtbpbniemjjhecaaGreat.G Go.Proofs.YtbpbniemjjhecaaGreatW.PrintWords Go.Proofs.YtbpbniemjjhecaaGreatW.PrintLast Go.Proofs.YtbpbniemjjhecaaGreatW.PrintMore
attribute [local go_sem] max2_int min2_int max_two min_two max_three min_three max_four min_four
set_option linter.unusedVariables false
set_option linter.unusedSimpArgs false
mutual
def r2_Print.j0 : Nat → ByteArray → Bool → Option (ByteArray × Int)
 | 0, _, _ => none
 | k + 1, x0, x13 => if x13 = true then (some ((⟨#[]⟩ : ByteArray), 1)) else (r2_Print.l0 k x0 (⟨#[]⟩ : ByteArray) 0)
def r2_Print.l0 : Nat → ByteArray → ByteArray → Int → Option (ByteArray × Int)
 | 0, _, _, _ => none
 | k + 1, x0, x4, x5 => if x5 < (x0.size : Int) then (if 0 ≤ x5 then (if (bt x0 x5) = 0 then (r2_Print.j2 k x0 x4 x5 true) else (r2_Print.j2 k x0 x4 x5 (decide ((bt x0 x5) > 63)))) else (none)) else (some (x4, 0))
def r2_Print.j2 : Nat → ByteArray → ByteArray → Int → Bool → Option (ByteArray × Int)
 | 0, _, _, _, _ => none
 | k + 1, x0, x4, x5, x29 => if x29 = true then (some ((⟨#[]⟩ : ByteArray), 1)) else (if x5 > 0 then (if x4.size + 1 ≤ 9223372036854775807 then (if 0 ≤ x5 then (if x5 < (x0.size : Int) then ((r2_Dots.f k (bt x0 x5)).bind fun t183 => (if (x4 ++ (⟨#[45]⟩ : ByteArray)).size + t183.size ≤ 9223372036854775807 then (r2_Print.l0 k x0 ((x4 ++ (⟨#[45]⟩ : ByteArray)) ++ t183) (wrap64 (x5 + 1))) else (none))) else (none)) else (none)) else (none)) else (if 0 ≤ x5 then (if x5 < (x0.size : Int) then ((r2_Dots.f k (bt x0 x5)).bind fun t184 => (if x4.size + t184.size ≤ 9223372036854775807 then (r2_Print.l0 k x0 (x4 ++ t184) (wrap64 (x5 + 1))) else (none))) else (none)) else (none)))
end
def r2_Print.f (k : Nat) (a0 : ByteArray) : Option (ByteArray × Int) := if (a0.size : Int) = 0 then (r2_Print.j0 k a0 true) else (r2_Print.j0 k a0 (decide ((a0.size : Int) > 4)))
def r8_May.j0 : Nat → Bool → Int → ByteArray → ByteArray → Int → Int → Option (Bool)
 | 0, _, _, _, _, _, _ => none
 | k + 1, x20, x186000, x186001, x186002, x186003, x186004 => if x20 = true then (some false) else ((r2_Print.f k x186002).bind fun bt187 => (if bt187.2 = 0 then (if x186000 ≤ 5 then (if x186003 ≥ 0 then (some (decide (x186003 ≤ 99))) else (some false)) else (some (x186003 == 0))) else (some false)))
def r8_May.f (k : Nat) (a0_0 : Int) (a0_1 : ByteArray) (a0_2 : ByteArray) (a0_3 : Int) (a0_4 : Int) : Option (Bool) := if a0_0 < 1 then (r8_May.j0 k true a0_0 a0_1 a0_2 a0_3 a0_4) else (if a0_0 > 8 then (r8_May.j0 k true a0_0 a0_1 a0_2 a0_3 a0_4) else ((r8_left.f k a0_0 a0_1).bind fun t186 => (r8_May.j0 k (!t186) a0_0 a0_1 a0_2 a0_3 a0_4)))
end Go.Proofs.YtbpbniemjjhecaaGreat.PChk
end
section
namespace Go.Proofs.YtbpbniemjjhecaaGreat.PChk
open Go.RowKit Go.Proofs.YtbpbniemjjhecaaGreat.G Go.Proofs.YtbpbniemjjhecaaGreatW.PrintWords Go.Proofs.YtbpbniemjjhecaaGreatW.PrintLast Go.Proofs.YtbpbniemjjhecaaGreatW.PrintMore
attribute [local go_sem] max2_int min2_int max_two min_two max_three min_three max_four min_four
set_option linter.unusedVariables false
set_option linter.unusedSimpArgs false
def r9_Alone.j0 : Nat → Bool → Int → ByteArray → ByteArray → Int → Int → Option (Bool)
 | 0, _, _, _, _, _, _ => none
 | k + 1, x26, x190000, x190001, x190002, x190003, x190004 => if x26 = true then (some false) else (if x190000 = 8 then (if x190001.toList = ([110, 117, 109] : List UInt8) then (if (x190002.size : Int) > 2 then (some false) else ((r8_May.f k x190000 x190001 x190002 x190003 x190004).bind fun t191 => (some t191))) else (if x190001.toList = ([108, 101, 116] : List UInt8) then (if (x190002.size : Int) > 2 then (some false) else ((r8_May.f k x190000 x190001 x190002 x190003 x190004).bind fun t192 => (some t192))) else ((r8_May.f k x190000 x190001 x190002 x190003 x190004).bind fun t193 => (some t193)))) else ((r8_May.f k x190000 x190001 x190002 x190003 x190004).bind fun t194 => (some t194)))
def r9_Alone.f (k : Nat) (a0_0 : Int) (a0_1 : ByteArray) (a0_2 : ByteArray) (a0_3 : Int) (a0_4 : Int) : Option (Bool) := (r9_Kept.f a0_0 a0_1 a0_2 a0_3 a0_4).bind fun t190 => (if t190 = true then (r9_Alone.j0 k ((a0_2.size : Int) != 1) a0_0 a0_1 a0_2 a0_3 a0_4) else (if a0_0 = 7 then (r9_Alone.j0 k ((a0_2.size : Int) != 1) a0_0 a0_1 a0_2 a0_3 a0_4) else (if a0_0 = 1 then (if (a0_1.size : Int) = 1 then (r9_Alone.j0 k ((a0_2.size : Int) != 1) a0_0 a0_1 a0_2 a0_3 a0_4) else (r9_Alone.j0 k false a0_0 a0_1 a0_2 a0_3 a0_4)) else (r9_Alone.j0 k false a0_0 a0_1 a0_2 a0_3 a0_4))))
mutual
def r9_In.j0 : Nat → Int → Bool → Int → ByteArray → ByteArray → Int → Int → Option (Bool)
 | 0, _, _, _, _, _, _, _ => none
 | k + 1, x1, x10, x196000, x196001, x196002, x196003, x196004 => if x10 = true then (some false) else (if x196000 = 6 then (r9_In.j1 k x1 true x196000 x196001 x196002 x196003 x196004) else (r9_In.j1 k x1 (x196000 == 8) x196000 x196001 x196002 x196003 x196004))
def r9_In.j1 : Nat → Int → Bool → Int → ByteArray → ByteArray → Int → Int → Option (Bool)
 | 0, _, _, _, _, _, _, _ => none
 | k + 1, x1, x18, x196000, x196001, x196002, x196003, x196004 => if x18 = true then (some true) else (if x1 = 1 then (if x196000 = 1 then (some true) else (some (x196000 == 2))) else (if x1 = 2 then (if x196000 = 1 then (some true) else (if x196000 = 3 then (some true) else (some (x196000 == 4)))) else (some (x196000 == 7))))
end
def r9_In.f (k : Nat) (a0_0 : Int) (a0_1 : ByteArray) (a0_2 : ByteArray) (a0_3 : Int) (a0_4 : Int) (a1 : Int) : Option (Bool) := if a1 < 1 then (r9_In.j0 k a1 true a0_0 a0_1 a0_2 a0_3 a0_4) else (r9_In.j0 k a1 (decide (a1 > 3)) a0_0 a0_1 a0_2 a0_3 a0_4)
def r9_Begins.f (a0 : ByteArray) (a1 : ByteArray) : Option (Bool) := if (a0.size : Int) ≤ (a1.size : Int) then (if 0 ≤ (a0.size : Int) then (some ((a1.extract 0 ((a0.size : Int) : Int).toNat).toList == a0.toList)) else (none)) else (some false)
end Go.Proofs.YtbpbniemjjhecaaGreat.PChk
end
section
namespace Go.Proofs.YtbpbniemjjhecaaGreat.PChk
open Go.RowKit Go.Proofs.YtbpbniemjjhecaaGreat.G Go.Proofs.YtbpbniemjjhecaaGreatW.PrintWords Go.Proofs.YtbpbniemjjhecaaGreatW.PrintLast Go.Proofs.YtbpbniemjjhecaaGreatW.PrintMore
attribute [local go_sem] max2_int min2_int max_two min_two max_three min_three max_four min_four
set_option linter.unusedVariables false
set_option linter.unusedSimpArgs false
def r9_within.l0 : Nat → ByteArray → ByteArray → Int → Option (Bool)
 | 0, _, _, _ => none
 | k + 1, x0, x1, x5 => if x5 ≤ (x1.size : Int) then (if 0 ≤ x5 then ((r9_Begins.f x0 (x1.extract (x5 : Int).toNat x1.size)).bind fun t196 => (if t196 = true then (some true) else (r9_within.l0 k x0 x1 (wrap64 (x5 + 1))))) else (none)) else (some false)
def r9_within.f (k : Nat) (a0 : ByteArray) (a1 : ByteArray) : Option (Bool) := r9_within.l0 k a0 a1 0
end Go.Proofs.YtbpbniemjjhecaaGreat.PChk
end
section
namespace Go.Proofs.YtbpbniemjjhecaaGreat.PChk
open Go.RowKit Go.Proofs.YtbpbniemjjhecaaGreat.G Go.Proofs.YtbpbniemjjhecaaGreatW.PrintWords Go.Proofs.YtbpbniemjjhecaaGreatW.PrintLast Go.Proofs.YtbpbniemjjhecaaGreatW.PrintMore
attribute [local go_sem] max2_int min2_int max_two min_two max_three min_three max_four min_four
set_option linter.unusedVariables false
set_option linter.unusedSimpArgs false
mutual
def r9_Clash.j0 : Nat → Bool → Int → ByteArray → ByteArray → Int → Int → Int → ByteArray → ByteArray → Int → Int → Option (Bool)
 | 0, _, _, _, _, _, _, _, _, _, _, _ => none
 | k + 1, x17, x198000, x198001, x198002, x198003, x198004, x199000, x199001, x199002, x199003, x199004 => if x17 = true then (some true) else (if x198000 = 5 then (if x199000 = 5 then (r9_Clash.j1 k (x198002.toList == x199002.toList) x198000 x198001 x198002 x198003 x198004 x199000 x199001 x199002 x199003 x199004) else (r9_Clash.j1 k false x198000 x198001 x198002 x198003 x198004 x199000 x199001 x199002 x199003 x199004)) else (r9_Clash.j1 k false x198000 x198001 x198002 x198003 x198004 x199000 x199001 x199002 x199003 x199004))
def r9_Clash.j1 : Nat → Bool → Int → ByteArray → ByteArray → Int → Int → Int → ByteArray → ByteArray → Int → Int → Option (Bool)
 | 0, _, _, _, _, _, _, _, _, _, _, _ => none
 | k + 1, x32, x198000, x198001, x198002, x198003, x198004, x199000, x199001, x199002, x199003, x199004 => if x32 = true then (some true) else (r9_Clash.l0 k 1 x198000 x198001 x198002 x198003 x198004 x199000 x199001 x199002 x199003 x199004)
def r9_Clash.l0 : Nat → Int → Int → ByteArray → ByteArray → Int → Int → Int → ByteArray → ByteArray → Int → Int → Option (Bool)
 | 0, _, _, _, _, _, _, _, _, _, _, _ => none
 | k + 1, x5, x198000, x198001, x198002, x198003, x198004, x199000, x199001, x199002, x199003, x199004 => if x5 ≤ 3 then ((r9_In.f k x198000 x198001 x198002 x198003 x198004 x5).bind fun t199 => (if t199 = true then ((r9_In.f k x199000 x199001 x199002 x199003 x199004 x5).bind fun t200 => (if t200 = true then ((r9_Begins.f x198002 x199002).bind fun t201 => (if t201 = true then (some true) else ((r9_Begins.f x199002 x198002).bind fun t202 => (if t202 = true then (some true) else (r9_Clash.l0 k (wrap64 (x5 + 1)) x198000 x198001 x198002 x198003 x198004 x199000 x199001 x199002 x199003 x199004))))) else (r9_Clash.l0 k (wrap64 (x5 + 1)) x198000 x198001 x198002 x198003 x198004 x199000 x199001 x199002 x199003 x199004))) else (r9_Clash.l0 k (wrap64 (x5 + 1)) x198000 x198001 x198002 x198003 x198004 x199000 x199001 x199002 x199003 x199004))) else ((r9_Kept.f x198000 x198001 x198002 x198003 x198004).bind fun t203 => (if t203 = true then ((r9_within.f k x198002 x199002).bind fun t204 => (if t204 = true then (r9_Clash.j3 k true x198000 x198001 x198002 x198003 x198004 x199000 x199001 x199002 x199003 x199004) else ((r9_Kept.f x199000 x199001 x199002 x199003 x199004).bind fun t205 => (if t205 = true then ((r9_within.f k x199002 x198002).bind fun t206 => (r9_Clash.j3 k t206 x198000 x198001 x198002 x198003 x198004 x199000 x199001 x199002 x199003 x199004)) else (r9_Clash.j3 k false x198000 x198001 x198002 x198003 x198004 x199000 x199001 x199002 x199003 x199004))))) else ((r9_Kept.f x199000 x199001 x199002 x199003 x199004).bind fun t207 => (if t207 = true then ((r9_within.f k x199002 x198002).bind fun t208 => (r9_Clash.j3 k t208 x198000 x198001 x198002 x198003 x198004 x199000 x199001 x199002 x199003 x199004)) else (r9_Clash.j3 k false x198000 x198001 x198002 x198003 x198004 x199000 x199001 x199002 x199003 x199004)))))
def r9_Clash.j3 : Nat → Bool → Int → ByteArray → ByteArray → Int → Int → Int → ByteArray → ByteArray → Int → Int → Option (Bool)
 | 0, _, _, _, _, _, _, _, _, _, _, _ => none
 | k + 1, x78, x198000, x198001, x198002, x198003, x198004, x199000, x199001, x199002, x199003, x199004 => if x78 = true then (some true) else (if x198000 = 8 then (if x199000 = 5 then ((r9_Begins.f x198002 x199002).bind fun t209 => (if t209 = true then (some true) else (if x199000 = 8 then (if x198000 = 5 then ((r9_Begins.f x199002 x198002).bind fun t210 => (some t210)) else (some false)) else (some false)))) else (if x199000 = 8 then (if x198000 = 5 then ((r9_Begins.f x199002 x198002).bind fun t211 => (some t211)) else (some false)) else (some false))) else (if x199000 = 8 then (if x198000 = 5 then ((r9_Begins.f x199002 x198002).bind fun t212 => (some t212)) else (some false)) else (some false)))
end
def r9_Clash.f (k : Nat) (a0_0 : Int) (a0_1 : ByteArray) (a0_2 : ByteArray) (a0_3 : Int) (a0_4 : Int) (a1_0 : Int) (a1_1 : ByteArray) (a1_2 : ByteArray) (a1_3 : Int) (a1_4 : Int) : Option (Bool) := if a0_0 = a1_0 then (r9_Clash.j0 k (a0_1.toList == a1_1.toList) a0_0 a0_1 a0_2 a0_3 a0_4 a1_0 a1_1 a1_2 a1_3 a1_4) else (r9_Clash.j0 k false a0_0 a0_1 a0_2 a0_3 a0_4 a1_0 a1_1 a1_2 a1_3 a1_4)
end Go.Proofs.YtbpbniemjjhecaaGreat.PChk
end
section
namespace Go.Proofs.YtbpbniemjjhecaaGreat.PChk
open Go.RowKit Go.Proofs.YtbpbniemjjhecaaGreat.G Go.Proofs.YtbpbniemjjhecaaGreatW.PrintWords Go.Proofs.YtbpbniemjjhecaaGreatW.PrintLast Go.Proofs.YtbpbniemjjhecaaGreatW.PrintMore
attribute [local go_sem] max2_int min2_int max_two min_two max_three min_three max_four min_four
set_option linter.unusedVariables false
set_option linter.unusedSimpArgs false
def r9_has.l0 : Nat → List (S50) → Int → ByteArray → Int → Option (Bool)
 | 0, _, _, _, _ => none
 | k + 1, x0, x1, x2, x7 => if x7 < (x0.length : Int) then (if 0 ≤ x7 then (if ((rd_T50 x0 x7).f0) = x1 then (if ((rd_T50 x0 x7).f1).toList = x2.toList then (some true) else (r9_has.l0 k x0 x1 x2 (wrap64 (x7 + 1)))) else (r9_has.l0 k x0 x1 x2 (wrap64 (x7 + 1)))) else (none)) else (some false)
def r9_has.f (k : Nat) (l0 : List (S50)) (a1 : Int) (a2 : ByteArray) : Option (Bool) := r9_has.l0 k l0 a1 a2 0
mutual
def r9_Missing.l0 : Nat → List (S50) → Int → Option (ByteArray)
 | 0, _, _ => none
 | k + 1, x0, x3 => if x3 < 26 then ((some (([(wrap64 (97 + x3)) % 256] : List Int) : List Int)).bind fun y215 => ((r9_has.f k x0 1 (strOfNums y215)).bind fun t218 => (if t218 = true then (r9_Missing.l0 k x0 (wrap64 (x3 + 1))) else (some (strOfNums y215))))) else ((r1_Marks.f).bind fun t219 => (r9_Missing.l1 k x0 t219 0))
def r9_Missing.l1 : Nat → List (S50) → ByteArray → Int → Option (ByteArray)
 | 0, _, _, _ => none
 | k + 1, x0, x5, x6 => if x6 < (x5.size : Int) then (if 0 ≤ x6 then (if x6 ≤ (wrap64 (x6 + 1)) then (if (wrap64 (x6 + 1)) ≤ (x5.size : Int) then ((r9_has.f k x0 6 (x5.extract (x6 : Int).toNat ((wrap64 (x6 + 1)) : Int).toNat)).bind fun t220 => (if t220 = true then (r9_Missing.l1 k x0 x5 (wrap64 (x6 + 1))) else (some (x5.extract (x6 : Int).toNat ((wrap64 (x6 + 1)) : Int).toNat)))) else (none)) else (none)) else (none)) else (r9_Missing.l2 k x0 0)
def r9_Missing.l2 : Nat → List (S50) → Int → Option (ByteArray)
 | 0, _, _ => none
 | k + 1, x0, x7 => if x7 < 10 then ((some (([(wrap64 (48 + x7)) % 256] : List Int) : List Int)).bind fun y221 => ((r9_has.f k x0 7 (strOfNums y221)).bind fun t224 => (if t224 = true then (r9_Missing.l2 k x0 (wrap64 (x7 + 1))) else (some (strOfNums y221))))) else ((r8_Names.f).bind fun t225 => (r9_Missing.l3 k x0 t225 0))
def r9_Missing.l3 : Nat → List (S50) → List ByteArray → Int → Option (ByteArray)
 | 0, _, _, _ => none
 | k + 1, x0, x9, x10 => if x10 < (x9.length : Int) then (if 0 ≤ x10 then ((r9_has.f k x0 8 (rdOf ByteArray.empty x9 x10)).bind fun t229 => (if t229 = true then (r9_Missing.l3 k x0 x9 (wrap64 (x10 + 1))) else (some (rdOf ByteArray.empty x9 x10)))) else (none)) else (some (⟨#[]⟩ : ByteArray))
end
def r9_Missing.f (k : Nat) (l0 : List (S50)) : Option (ByteArray) := r9_Missing.l0 k l0 0
end Go.Proofs.YtbpbniemjjhecaaGreat.PChk
end
section
namespace Go.Proofs.YtbpbniemjjhecaaGreat.PChk
open Go.RowKit Go.Proofs.YtbpbniemjjhecaaGreat.G Go.Proofs.YtbpbniemjjhecaaGreatW.PrintWords Go.Proofs.YtbpbniemjjhecaaGreatW.PrintLast Go.Proofs.YtbpbniemjjhecaaGreatW.PrintMore
attribute [local go_sem] max2_int min2_int max_two min_two max_three min_three max_four min_four
set_option linter.unusedVariables false
set_option linter.unusedSimpArgs false
set_option maxHeartbeats 8000000
set_option maxRecDepth 100000
mutual
def r9_Table.l0 : Nat → List (S50) → Int → Option (Int × Int)
 | 0, _, _ => none
 | k + 1, x0, x4 => if x4 < (x0.length : Int) then (if 0 ≤ x4 then ((r9_Alone.f k ((rd_T50 x0 x4).f0) ((rd_T50 x0 x4).f1) ((rd_T50 x0 x4).f2) ((rd_T50 x0 x4).f3) ((rd_T50 x0 x4).f4)).bind fun t232 => (if t232 = true then (r9_Table.l1 k x0 x4 0) else (some ((rd_T50 x0 x4).f4, 6)))) else (none)) else (if (x0.length : Int) > 400 then (some (0, 4)) else ((r9_Missing.f k x0).bind fun t238 => (if t238.toList = ([] : List UInt8) then (some (0, 0)) else (some (0, 6)))))
def r9_Table.l1 : Nat → List (S50) → Int → Int → Option (Int × Int)
 | 0, _, _, _ => none
 | k + 1, x0, x4, x5 => if x5 < x4 then (if 0 ≤ x4 then (if x4 < (x0.length : Int) then (if 0 ≤ x5 then (if x5 < (x0.length : Int) then ((r9_Clash.f k ((rd_T50 x0 x4).f0) ((rd_T50 x0 x4).f1) ((rd_T50 x0 x4).f2) ((rd_T50 x0 x4).f3) ((rd_T50 x0 x4).f4) ((rd_T50 x0 x5).f0) ((rd_T50 x0 x5).f1) ((rd_T50 x0 x5).f2) ((rd_T50 x0 x5).f3) ((rd_T50 x0 x5).f4)).bind fun t236 => (if t236 = true then (some ((rd_T50 x0 x4).f4, 6)) else (r9_Table.l1 k x0 x4 (wrap64 (x5 + 1))))) else (none)) else (none)) else (none)) else (none)) else (r9_Table.l0 k x0 (wrap64 (x4 + 1)))
end
def r9_Table.f (k : Nat) (l0 : List (S50)) : Option (Int × Int) := r9_Table.l0 k l0 0
def r9_Table.T9 : Bool × List (List Nat × List Nat) := (true, [([], []), ([], []), ([0, 1], [0, 1]), ([2], [2]), ([], []), ([], []), ([4, 5], [4, 5]), ([6], [6]), ([3, 7], [3, 7])])
def r9_Table.B9 : List Nat := [0, 0, 3, 7, 0, 0, 48, 112, 255]
def r8_fields.l0 : Nat → ByteArray → List ByteArray → Int → Int → Option (List ByteArray)
 | 0, _, _, _, _ => none
 | k + 1, x0, x3, x4, x5 => if x5 ≤ (x0.size : Int) then (if x5 = (x0.size : Int) then (if 0 ≤ x4 then (if x4 ≤ x5 then (if x3.length < 8796093022208 then (r8_fields.l0 k x0 (x3 ++ [x0.extract (x4 : Int).toNat (x5 : Int).toNat]) (wrap64 (x5 + 1)) (wrap64 (x5 + 1))) else (none)) else (none)) else (none)) else (if 0 ≤ x5 then (if x5 < (x0.size : Int) then (if (bt x0 x5) = 32 then (if 0 ≤ x4 then (if x4 ≤ x5 then (if x3.length < 8796093022208 then (r8_fields.l0 k x0 (x3 ++ [x0.extract (x4 : Int).toNat (x5 : Int).toNat]) (wrap64 (x5 + 1)) (wrap64 (x5 + 1))) else (none)) else (none)) else (none)) else (r8_fields.l0 k x0 x3 x4 (wrap64 (x5 + 1)))) else (none)) else (none))) else (some x3)
def r8_fields.f (k : Nat) (a0 : ByteArray) : Option (List ByteArray) := r8_fields.l0 k a0 ([] : List ByteArray) 0 0
theorem r8_fields.mono_l : ∀ k, (∀ y0 y1 y2 y3, LeO (r8_fields.l0 k y0 y1 y2 y3) (r8_fields.l0 (k + 1) y0 y1 y2 y3))
 | 0 => fun _ _ _ _ r h => by simp [r8_fields.l0] at h
 | k + 1 => by
  have ih0 := r8_fields.mono_l k
  ·
   intro y0 y1 y2 y3
   unfold r8_fields.l0
   repeat' first
   | (with_reducible first | exact ih0 _ _ _ _ | exact LeO.refl _ | exact LeO.none _ | refine LeO.ite ?_ ?_ | refine LeO.bind ?_ (fun _ => ?_))
   | exact ih0 _ _ _ _
   | exact LeO.none _
   | refine LeO.ite ?_ ?_
   | refine LeO.bind ?_ (fun _ => ?_)
theorem r8_fields.mono : ∀ a0 k, LeO (r8_fields.f k a0) (r8_fields.f (k + 1) a0) := by
 intro a0 k
 have ih0 := r8_fields.mono_l k
 unfold r8_fields.f
 repeat' first
   | (with_reducible first | exact ih0 _ _ _ _ | exact LeO.refl _ | exact LeO.none _ | refine LeO.ite ?_ ?_ | refine LeO.bind ?_ (fun _ => ?_))
   | exact ih0 _ _ _ _
   | exact LeO.none _
   | refine LeO.ite ?_ ?_
   | refine LeO.bind ?_ (fun _ => ?_)
theorem r8_fields.calls (k : Nat) (a0 : ByteArray) (r : List ByteArray) (w : World) (h : r8_fields.f k a0 = some r) :
  Calls Tryz.prog 125 #[.string a0] w fun e w' => ∃ v0_ : Value, e = .returned (v0_) ∧ Kd.R Kd.string 9 w' w.heap.size (fun _ => True) v0_ r ∧ Below w.heap.size w w' := by
 have HB := aK (Below.refl w.heap.size w)
 have H : (r8_fields.l0 k a0 ([] : List ByteArray) 0 0) = some r := h
 clear h
 have H' := aK H
 clear H
 go_enter Tryz.func125, Tryz.ntmps125
 go_wp2
 go_loopg [3, 4, 5] k (fun kq v3 v4 v5 w' => ∃ (x3_1 : List ByteArray) (x4_1 : Int) (x5_1 : Int), v4 = .int .i64 x4_1 ∧ v5 = .int .i64 x5_1 ∧ Aside0 (r8_fields.l0 kq a0 x3_1 x4_1 x5_1 = some r) ∧ Aside0 (kq ≤ k) ∧ Aside0 (Kd.R Kd.string 9 w' w.heap.size (fun _ => True) v3 x3_1) ∧ Aside0 (Below w.heap.size w w'))
 case atStart => exact ⟨(([] : List ByteArray)), (0), (0), sX, sX, H', ⟨Nat.le_refl _⟩, ⟨by first | exact Kd.R_nil _ _ _ _ _ | exact Kd.N_nil _ _ _ _ _ | exact Kd.V_nil _ _ _ _ _ | exact Kd.Q_nil _ _ _ _ _ | exact Kd.S_nil _ _ _ _ _⟩, ⟨bX⟩⟩
 case round =>
  clear H'
  try clear c1
  obtain ⟨x3_1, x4_1, x5_1, rfl, rfl, HA, HK1, HO_3, HB⟩ := hrel
  cases gk with
  | zero => exact absurd HA.out (by simp [r8_fields.l0])
  | succ k1 =>
   have H := HA.out; clear HA
   simp only [r8_fields.l0] at H
   by_cases c2 : x5_1 ≤ (a0.size : Int)
   rotate_left
   ·
    rw [if_neg c2] at H; have c2b0 : decide (x5_1 ≤ (a0.size : Int)) = false := decide_eq_false c2; clear c2; obtain rfl := oI H
    go_wp2
    go_ret
    exact ⟨_, eX, rX HO_3.out, bX⟩
   rw [if_pos c2] at H; have c2b0 : decide (x5_1 ≤ (a0.size : Int)) = true := decide_eq_true c2; clear c2
   by_cases c3 : x5_1 = (a0.size : Int)
   rotate_left
   ·
    rw [if_neg c3] at H; obtain ⟨c3b0, c3b1⟩ := bN c3
    by_cases c9 : 0 ≤ x5_1
    rotate_left
    ·
     rw [if_neg c9] at H
     exact absurd H (by simp)
    rw [if_pos c9] at H; have c9b0 : decide (0 ≤ x5_1) = true := decide_eq_true c9; clear c9
    by_cases c10 : x5_1 < (a0.size : Int)
    rotate_left
    ·
     rw [if_neg c10] at H
     exact absurd H (by simp)
    rw [if_pos c10] at H; have c10b0 : decide (x5_1 < (a0.size : Int)) = true := decide_eq_true c10; clear c10
    by_cases c12 : (bt a0 x5_1) = 32
    rotate_left
    ·
     rw [if_neg c12] at H; obtain ⟨c12b0, c12b1⟩ := bN c12; have H' := aK H; clear H; have p11 : 0 ≤ (x5_1 : Int) := oA; have q11 : x5_1 < (a0.size : Int) := oA
     have hx11 := bt_at a0 x5_1
     replace p11 := eq_true p11; replace q11 := eq_true q11
     go_wp2
     go_roundg k1
     case measure => have := HK1.out; omega
     case rel => exact ⟨(x3_1), (x4_1), (wrap64 (x5_1 + 1)), sX, sX, H', ⟨by have := HK1.out; omega⟩, ⟨rX HO_3.out⟩, ⟨bX⟩⟩
    rw [if_pos c12] at H; obtain ⟨c12b0, c12b1⟩ := bY c12; clear c12
    by_cases c13 : 0 ≤ x4_1
    rotate_left
    ·
     rw [if_neg c13] at H
     exact absurd H (by simp)
    rw [if_pos c13] at H; have c13b0 := eq_true c13; have c13b1 : decide (0 ≤ x4_1) = true := decide_eq_true c13; clear c13
    by_cases c14 : x4_1 ≤ x5_1
    rotate_left
    ·
     rw [if_neg c14] at H
     exact absurd H (by simp)
    rw [if_pos c14] at H; have c14b0 := eq_true c14; have c14b1 : decide (x4_1 ≤ x5_1) = true := decide_eq_true c14; clear c14
    have c15b0 := eq_true (oA : x5_1 ≤ (a0.size : Int))
    by_cases c16 : x3_1.length < 8796093022208
    rotate_left
    ·
     rw [if_neg c16] at H
     exact absurd H (by simp)
    rw [if_pos c16] at H; have LMc16 := aK c16; clear c16
    obtain ⟨y242, hy242⟩ : ∃ y_ : List ByteArray, y_ = (x3_1 ++ [a0.extract (x4_1 : Int).toNat (x5_1 : Int).toNat]) := ⟨_, rfl⟩
    replace H : (r8_fields.l0 k1 a0 y242 (wrap64 (x5_1 + 1)) (wrap64 (x5_1 + 1))) = some r := by first | (rw [hy242]; with_reducible exact H) | (have H2_ := (Option.bind_some _ _).symm.trans H; rw [hy242]; with_reducible exact H2_) | (have H2_ := (Option.bind_some _ _).symm.trans H; with_reducible exact H2_) | with_reducible exact H | (rw [hy242]; exact H) | exact H
    have Ny242 := aK hy242; clear hy242; have H' := aK H; clear H; have p11 : 0 ≤ (x5_1 : Int) := oA; have q11 : x5_1 < (a0.size : Int) := oA
    have hx11 := bt_at a0 x5_1
    replace p11 := eq_true p11; replace q11 := eq_true q11
    go_wp2_with (first | ((with_reducible refine gate_builtin (b := .append) (xs := #[.tmp 22, .tmp 27]) rfl ?_); at_builtin; refine Kd.R_append Kd.string (w0 := w) w.heap.size rfl (.tmp 22) (.tmp 27) 112 9 (.string ⟨#[]⟩) 16 rfl Tryz.underlying112 info9 rfl (by decide) (by omega) u3 x3_1 (a0.extract (x4_1 : Int).toNat (x5_1 : Int).toNat) [.string (a0.extract (x4_1 : Int).toNat (x5_1 : Int).toNat)] (fun _ => True) (fun _ => False) rfl rfl ?aP (fun _ hk => hk.elim) ?aF ?aO ?aB ?aS ?aL ?_; (case aP => exact rfl); (case aB => exact bX); (case aF => exact (fun _ _ => trivial)); (case aO => exact (rX HO_3.out)); (case aS => exact (bSz bX)); (case aL => have := LMc16.out; omega); intro v243 w17 ho hb hg hat; rw [← Ny242.out] at ho; replace HB := aK (hb); have HO244 := aK (ho); clear HO_3; clear ho hb hg hat))
    go_roundg k1
    case measure => have := HK1.out; omega
    case rel => exact ⟨(y242), (wrap64 (x5_1 + 1)), (wrap64 (x5_1 + 1)), sX, sX, H', ⟨by have := HK1.out; omega⟩, ⟨rX HO244.out⟩, ⟨bX⟩⟩
   rw [if_pos c3] at H; obtain ⟨c3b0, c3b1⟩ := bY c3; clear c3
   by_cases c4 : 0 ≤ x4_1
   rotate_left
   ·
    rw [if_neg c4] at H
    exact absurd H (by simp)
   rw [if_pos c4] at H; have c4b0 := eq_true c4; have c4b1 : decide (0 ≤ x4_1) = true := decide_eq_true c4; clear c4
   by_cases c5 : x4_1 ≤ x5_1
   rotate_left
   ·
    rw [if_neg c5] at H
    exact absurd H (by simp)
   rw [if_pos c5] at H; have c5b0 := eq_true c5; have c5b1 : decide (x4_1 ≤ x5_1) = true := decide_eq_true c5; clear c5
   have c6b0 := eq_true (oA : x5_1 ≤ (a0.size : Int))
   by_cases c7 : x3_1.length < 8796093022208
   rotate_left
   ·
    rw [if_neg c7] at H
    exact absurd H (by simp)
   rw [if_pos c7] at H; have LMc7 := aK c7; clear c7
   obtain ⟨y239, hy239⟩ : ∃ y_ : List ByteArray, y_ = (x3_1 ++ [a0.extract (x4_1 : Int).toNat (x5_1 : Int).toNat]) := ⟨_, rfl⟩
   replace H : (r8_fields.l0 k1 a0 y239 (wrap64 (x5_1 + 1)) (wrap64 (x5_1 + 1))) = some r := by first | (rw [hy239]; with_reducible exact H) | (have H2_ := (Option.bind_some _ _).symm.trans H; rw [hy239]; with_reducible exact H2_) | (have H2_ := (Option.bind_some _ _).symm.trans H; with_reducible exact H2_) | with_reducible exact H | (rw [hy239]; exact H) | exact H
   have Ny239 := aK hy239; clear hy239; have H' := aK H; clear H
   go_wp2_with (first | ((with_reducible refine gate_builtin (b := .append) (xs := #[.tmp 22, .tmp 27]) rfl ?_); at_builtin; refine Kd.R_append Kd.string (w0 := w) w.heap.size rfl (.tmp 22) (.tmp 27) 112 9 (.string ⟨#[]⟩) 16 rfl Tryz.underlying112 info9 rfl (by decide) (by omega) u3 x3_1 (a0.extract (x4_1 : Int).toNat (x5_1 : Int).toNat) [.string (a0.extract (x4_1 : Int).toNat (x5_1 : Int).toNat)] (fun _ => True) (fun _ => False) rfl rfl ?aP (fun _ hk => hk.elim) ?aF ?aO ?aB ?aS ?aL ?_; (case aP => exact rfl); (case aB => exact bX); (case aF => exact (fun _ _ => trivial)); (case aO => exact (rX HO_3.out)); (case aS => exact (bSz bX)); (case aL => have := LMc7.out; omega); intro v240 w8 ho hb hg hat; rw [← Ny239.out] at ho; replace HB := aK (hb); have HO241 := aK (ho); clear HO_3; clear ho hb hg hat))
   go_roundg k1
   case measure => have := HK1.out; omega
   case rel => exact ⟨(y239), (wrap64 (x5_1 + 1)), (wrap64 (x5_1 + 1)), sX, sX, H', ⟨by have := HK1.out; omega⟩, ⟨rX HO241.out⟩, ⟨bX⟩⟩
def r8_Words.f  : Option (List ByteArray) := some (([(⟨#[]⟩ : ByteArray), (⟨#[97, 110, 121]⟩ : ByteArray), (⟨#[98, 101, 103, 105, 110]⟩ : ByteArray), (⟨#[105, 110, 110, 101, 114]⟩ : ByteArray), (⟨#[101, 110, 100]⟩ : ByteArray), (⟨#[119, 111, 114, 100]⟩ : ByteArray), (⟨#[109, 97, 114, 107]⟩ : ByteArray), (⟨#[100, 105, 103, 105, 116]⟩ : ByteArray), (⟨#[115, 105, 103, 110]⟩ : ByteArray)] : List ByteArray))
theorem r8_Words.calls  (r : List ByteArray) (w : World) (h : r8_Words.f  = some r) :
  Calls Tryz.prog 126 #[] w fun e w' => ∃ v0_ : Value, e = .returned (v0_) ∧ Kd.R Kd.string 9 w' w.heap.size (fun _ => True) v0_ r ∧ Below w.heap.size w w' := by
 have HB := aK (Below.refl w.heap.size w)
 have H : (some (([(⟨#[]⟩ : ByteArray), (⟨#[97, 110, 121]⟩ : ByteArray), (⟨#[98, 101, 103, 105, 110]⟩ : ByteArray), (⟨#[105, 110, 110, 101, 114]⟩ : ByteArray), (⟨#[101, 110, 100]⟩ : ByteArray), (⟨#[119, 111, 114, 100]⟩ : ByteArray), (⟨#[109, 97, 114, 107]⟩ : ByteArray), (⟨#[100, 105, 103, 105, 116]⟩ : ByteArray), (⟨#[115, 105, 103, 110]⟩ : ByteArray)] : List ByteArray))) = some r := h
 clear h
 obtain ⟨y245, hy245⟩ : ∃ y_ : List ByteArray, y_ = (([(⟨#[]⟩ : ByteArray), (⟨#[97, 110, 121]⟩ : ByteArray), (⟨#[98, 101, 103, 105, 110]⟩ : ByteArray), (⟨#[105, 110, 110, 101, 114]⟩ : ByteArray), (⟨#[101, 110, 100]⟩ : ByteArray), (⟨#[119, 111, 114, 100]⟩ : ByteArray), (⟨#[109, 97, 114, 107]⟩ : ByteArray), (⟨#[100, 105, 103, 105, 116]⟩ : ByteArray), (⟨#[115, 105, 103, 110]⟩ : ByteArray)] : List ByteArray)) := ⟨_, rfl⟩
 replace H : (some y245) = some r := by first | (rw [hy245]; with_reducible exact H) | (have H2_ := (Option.bind_some _ _).symm.trans H; rw [hy245]; with_reducible exact H2_) | (have H2_ := (Option.bind_some _ _).symm.trans H; with_reducible exact H2_) | with_reducible exact H | (rw [hy245]; exact H) | exact H
 have Ny245 := aK hy245
 clear hy245
 obtain rfl := oI H
 go_enter Tryz.func126, Tryz.ntmps126
 go_wp2_with (first | ((with_reducible refine gate_dst (N := 1) rfl ?_); refine Kd.R_lit Kd.string _ 9 ?hg (N := 1) ?hd (xs := ([(⟨#[]⟩ : ByteArray), (⟨#[97, 110, 121]⟩ : ByteArray), (⟨#[98, 101, 103, 105, 110]⟩ : ByteArray), (⟨#[105, 110, 110, 101, 114]⟩ : ByteArray), (⟨#[101, 110, 100]⟩ : ByteArray), (⟨#[119, 111, 114, 100]⟩ : ByteArray), (⟨#[109, 97, 114, 107]⟩ : ByteArray), (⟨#[100, 105, 103, 105, 116]⟩ : ByteArray), (⟨#[115, 105, 103, 110]⟩ : ByteArray)] : List ByteArray)) (inner := [.string (⟨#[]⟩ : ByteArray), .string (⟨#[97, 110, 121]⟩ : ByteArray), .string (⟨#[98, 101, 103, 105, 110]⟩ : ByteArray), .string (⟨#[105, 110, 110, 101, 114]⟩ : ByteArray), .string (⟨#[101, 110, 100]⟩ : ByteArray), .string (⟨#[119, 111, 114, 100]⟩ : ByteArray), .string (⟨#[109, 97, 114, 107]⟩ : ByteArray), .string (⟨#[100, 105, 103, 105, 116]⟩ : ByteArray), .string (⟨#[115, 105, 103, 110]⟩ : ByteArray)]) (ok := fun _ => True) (okp := fun _ => True) ?hr ?hp (fun _ hk => hk) trivial (Below.refl _ _) (Nat.le_refl _) (by simp) ?_; (case hd => rfl); (case hg => rfl); (case hr => first | (go_simp; done) | (go_simp; rfl)); (case hp => exact (Reps.one (show Kd.M Kd.string _ _ _ (⟨#[]⟩ : ByteArray) [.string (⟨#[]⟩ : ByteArray)] from rfl) (Reps.one (show Kd.M Kd.string _ _ _ (⟨#[97, 110, 121]⟩ : ByteArray) [.string (⟨#[97, 110, 121]⟩ : ByteArray)] from rfl) (Reps.one (show Kd.M Kd.string _ _ _ (⟨#[98, 101, 103, 105, 110]⟩ : ByteArray) [.string (⟨#[98, 101, 103, 105, 110]⟩ : ByteArray)] from rfl) (Reps.one (show Kd.M Kd.string _ _ _ (⟨#[105, 110, 110, 101, 114]⟩ : ByteArray) [.string (⟨#[105, 110, 110, 101, 114]⟩ : ByteArray)] from rfl) (Reps.one (show Kd.M Kd.string _ _ _ (⟨#[101, 110, 100]⟩ : ByteArray) [.string (⟨#[101, 110, 100]⟩ : ByteArray)] from rfl) (Reps.one (show Kd.M Kd.string _ _ _ (⟨#[119, 111, 114, 100]⟩ : ByteArray) [.string (⟨#[119, 111, 114, 100]⟩ : ByteArray)] from rfl) (Reps.one (show Kd.M Kd.string _ _ _ (⟨#[109, 97, 114, 107]⟩ : ByteArray) [.string (⟨#[109, 97, 114, 107]⟩ : ByteArray)] from rfl) (Reps.one (show Kd.M Kd.string _ _ _ (⟨#[100, 105, 103, 105, 116]⟩ : ByteArray) [.string (⟨#[100, 105, 103, 105, 116]⟩ : ByteArray)] from rfl) (Reps.one (show Kd.M Kd.string _ _ _ (⟨#[115, 105, 103, 110]⟩ : ByteArray) [.string (⟨#[115, 105, 103, 110]⟩ : ByteArray)] from rfl) (Reps.none _ _))))))))))); intro v246 w1 ho2 hb hg_ hnew_; clear hg_ hnew_; (first | rw [← Ny245.out] at ho2 | (simp only [Int.reduceToNat] at ho2; rw [← Ny245.out] at ho2)); have HO247 := aK (Kd.R_lower ho2 (bSz bX)); replace HB := aK (bSp bX hb); clear hb ho2))
 go_ret
 exact ⟨_, eX, rX HO247.out, bX⟩
def r2_Of.l0 : Nat → ByteArray → Int → Int → Int → Option (Int × Bool)
 | 0, _, _, _, _ => none
 | k + 1, x0, x4, x5, x6 => if x6 < (x0.size : Int) then (if 0 ≤ x6 then (if (wrap64 ((wrap64 (bt x0 x6)) - 48)) < 1 then (some (0, false)) else (if (wrap64 ((wrap64 (bt x0 x6)) - 48)) > 6 then (some (0, false)) else (if (wrap64 ((wrap64 (bt x0 x6)) - 48)) ≤ x5 then (some (0, false)) else ((r2_weight.f k (wrap64 ((wrap64 (bt x0 x6)) - 48))).bind fun t248 => (r2_Of.l0 k x0 (wrap64 (x4 + t248)) (wrap64 ((wrap64 (bt x0 x6)) - 48)) (wrap64 (x6 + 1))))))) else (none)) else (some ((x4) % 256, decide ((x0.size : Int) > 0)))
def r2_Of.f (k : Nat) (a0 : ByteArray) : Option (Int × Bool) := r2_Of.l0 k a0 0 0 0
theorem r2_Of.mono_l : ∀ k, (∀ y0 y1 y2 y3, LeO (r2_Of.l0 k y0 y1 y2 y3) (r2_Of.l0 (k + 1) y0 y1 y2 y3))
 | 0 => fun _ _ _ _ r h => by simp [r2_Of.l0] at h
 | k + 1 => by
  have ih0 := r2_Of.mono_l k
  ·
   intro y0 y1 y2 y3
   unfold r2_Of.l0
   repeat' first
   | (with_reducible first | exact ih0 _ _ _ _ | exact r2_weight.mono _ _ | exact LeO.refl _ | exact LeO.none _ | refine LeO.ite ?_ ?_ | refine LeO.bind ?_ (fun _ => ?_))
   | exact ih0 _ _ _ _
   | exact r2_weight.mono _ _
   | exact LeO.none _
   | refine LeO.ite ?_ ?_
   | refine LeO.bind ?_ (fun _ => ?_)
theorem r2_Of.mono : ∀ a0 k, LeO (r2_Of.f k a0) (r2_Of.f (k + 1) a0) := by
 intro a0 k
 have ih0 := r2_Of.mono_l k
 unfold r2_Of.f
 repeat' first
   | (with_reducible first | exact ih0 _ _ _ _ | exact r2_weight.mono _ _ | exact LeO.refl _ | exact LeO.none _ | refine LeO.ite ?_ ?_ | refine LeO.bind ?_ (fun _ => ?_))
   | exact ih0 _ _ _ _
   | exact r2_weight.mono _ _
   | exact LeO.none _
   | refine LeO.ite ?_ ?_
   | refine LeO.bind ?_ (fun _ => ?_)
theorem r2_Of.calls (k : Nat) (a0 : ByteArray) (r1 : Int) (r2 : Bool) (w : World) (h : r2_Of.f k a0 = some (r1, r2)) :
  Calls Tryz.prog 142 #[.string a0] w fun e w' => e = .returned (.tuple #[.int .u8 r1, .bool r2]) ∧ Drawn0 w w' := by
 have H : (r2_Of.l0 k a0 0 0 0) = some (r1, r2) := h
 clear h
 have H' := aK H
 clear H
 go_enter Tryz.func142, Tryz.ntmps142
 go_wp2
 go_loopg [4, 5, 6] k (fun kq v4 v5 v6 w' => ∃ (x4_1 : Int) (x5_1 : Int) (x6_1 : Int), v4 = .int .i64 x4_1 ∧ v5 = .int .i64 x5_1 ∧ v6 = .int .i64 x6_1 ∧ Aside0 (r2_Of.l0 kq a0 x4_1 x5_1 x6_1 = some (r1, r2)) ∧ Aside0 (kq ≤ k) ∧ Drawn0 w w')
 case atStart => exact ⟨(0), (0), (0), sX, sX, sX, H', ⟨Nat.le_refl _⟩, dX⟩
 case round =>
  clear H'
  try clear c1
  obtain ⟨x4_1, x5_1, x6_1, rfl, rfl, rfl, HA, HK1, ⟨m1, rfl⟩⟩ := hrel
  cases gk with
  | zero => exact absurd HA.out (by simp [r2_Of.l0])
  | succ k1 =>
   have H := HA.out; clear HA
   simp only [r2_Of.l0] at H
   by_cases c2 : x6_1 < (a0.size : Int)
   rotate_left
   ·
    rw [if_neg c2] at H; have c2b0 : decide (x6_1 < (a0.size : Int)) = false := decide_eq_false c2; clear c2
    simp only [Option.some.injEq, Prod.mk.injEq] at H
    obtain ⟨rfl, rfl⟩ := H
    go_wp2
    go_ret2
    exact ⟨sX, dX⟩
   rw [if_pos c2] at H; have c2b0 : decide (x6_1 < (a0.size : Int)) = true := decide_eq_true c2; clear c2
   by_cases c3 : 0 ≤ x6_1
   rotate_left
   ·
    rw [if_neg c3] at H
    exact absurd H (by simp)
   rw [if_pos c3] at H; have c3b0 : decide (0 ≤ x6_1) = true := decide_eq_true c3; clear c3
   by_cases c5 : (wrap64 ((wrap64 (bt a0 x6_1)) - 48)) < 1
   rotate_left
   ·
    rw [if_neg c5] at H; have c5b0 : decide ((wrap64 ((wrap64 (bt a0 x6_1)) - 48)) < 1) = false := decide_eq_false c5; clear c5
    by_cases c6 : (wrap64 ((wrap64 (bt a0 x6_1)) - 48)) > 6
    rotate_left
    ·
     rw [if_neg c6] at H; have c6b0 : decide (6 < (wrap64 ((wrap64 (bt a0 x6_1)) - 48))) = false := decide_eq_false c6; clear c6
     by_cases c7 : (wrap64 ((wrap64 (bt a0 x6_1)) - 48)) ≤ x5_1
     rotate_left
     ·
      rw [if_neg c7] at H; have c7b0 : decide ((wrap64 ((wrap64 (bt a0 x6_1)) - 48)) ≤ x5_1) = false := decide_eq_false c7; clear c7; obtain ⟨t248, A8, H⟩ := oC H
      try dsimp only at H
      have H' := aK H; clear H; have p4 : 0 ≤ (x6_1 : Int) := oA; have q4 : x6_1 < (a0.size : Int) := oA
      have hx4 := bt_at a0 x6_1
      replace p4 := eq_true p4; replace q4 := eq_true q4
      go_wp2_with (first | ((with_reducible refine gate_callee (f := 143) rfl ?_); refine gO 32 Tryz.func143 #[.int .i64 (wrap64 ((wrap64 (bt a0 x6_1)) - 48))] ?_; (with_reducible refine (r2_weight.calls k1 (wrap64 ((wrap64 (bt a0 x6_1)) - 48)) t248 _ A8.out).mono ?_); rintro e w' ⟨rfl, ⟨nd, rfl⟩⟩; refine ⟨_, rfl, ?_⟩))
      go_roundg k1
      case measure => have := HK1.out; omega
      case rel => exact ⟨(wrap64 (x4_1 + t248)), (wrap64 ((wrap64 (bt a0 x6_1)) - 48)), (wrap64 (x6_1 + 1)), sX, sX, sX, H', ⟨by have := HK1.out; omega⟩, dX⟩
     rw [if_pos c7] at H; have c7b0 : decide ((wrap64 ((wrap64 (bt a0 x6_1)) - 48)) ≤ x5_1) = true := decide_eq_true c7; clear c7
     simp only [Option.some.injEq, Prod.mk.injEq] at H
     obtain ⟨rfl, rfl⟩ := H
     have p4 : 0 ≤ (x6_1 : Int) := oA; have q4 : x6_1 < (a0.size : Int) := oA
     have hx4 := bt_at a0 x6_1
     replace p4 := eq_true p4; replace q4 := eq_true q4
     go_wp2
     go_ret2
     exact ⟨sX, dX⟩
    rw [if_pos c6] at H; have c6b0 : decide (6 < (wrap64 ((wrap64 (bt a0 x6_1)) - 48))) = true := decide_eq_true c6; clear c6
    simp only [Option.some.injEq, Prod.mk.injEq] at H
    obtain ⟨rfl, rfl⟩ := H
    have p4 : 0 ≤ (x6_1 : Int) := oA; have q4 : x6_1 < (a0.size : Int) := oA
    have hx4 := bt_at a0 x6_1
    replace p4 := eq_true p4; replace q4 := eq_true q4
    go_wp2
    go_ret2
    exact ⟨sX, dX⟩
   rw [if_pos c5] at H; have c5b0 : decide ((wrap64 ((wrap64 (bt a0 x6_1)) - 48)) < 1) = true := decide_eq_true c5; clear c5
   simp only [Option.some.injEq, Prod.mk.injEq] at H
   obtain ⟨rfl, rfl⟩ := H
   have p4 : 0 ≤ (x6_1 : Int) := oA; have q4 : x6_1 < (a0.size : Int) := oA
   have hx4 := bt_at a0 x6_1
   replace p4 := eq_true p4; replace q4 := eq_true q4
   go_wp2
   go_ret2
   exact ⟨sX, dX⟩
end Go.Proofs.YtbpbniemjjhecaaGreat.PChk
end
