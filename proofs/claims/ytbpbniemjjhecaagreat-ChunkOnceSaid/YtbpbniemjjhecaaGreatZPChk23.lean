import Derived.Test.YtbpbniemjjhecaaGreatZPChk0
import Derived.Test.YtbpbniemjjhecaaGreatProg
import Derived.Below
import Derived.Deep.Draws
import Derived.Deep.AppendLies
import Derived.Maps.AppendAt
import Derived.OwnWalk
import Derived.Laws.BytesArg
import Derived.Laws.MakeOwn
import Derived.Laws.OwnMore
import Derived.Deep.OwnRows
import Derived.Tactics
import Derived.Lib.ConvBytes
import Derived.Laws.Slices
import Derived.WalkKit
import Derived.KernelRfl
import Derived.RowKit3
import Derived.Deep.LoopGhost
import Derived.Deep.QuietTactic
import Derived.BigQuiet
import Derived.WideLaws
import Derived.Deep.DeepCutAuto
import Derived.Deep.CutBlock
import Derived.Deep.RegionHeld3
import Derived.Laws.Rows
import Derived.Lib.AppendStr
import Derived.ArgAppend
import Derived.Laws.IdiomCopy
import Derived.OrdersHeld
import Derived.Laws.BitsLemmas
import Derived.RowKit
import Derived.Test.YtbpbniemjjhecaaGreatZWSized
import Derived.Test.YtbpbniemjjhecaaGreatZPChk24
import Derived.Test.YtbpbniemjjhecaaGreatZPChk7
import Derived.Test.YtbpbniemjjhecaaGreatZPChk17
import Derived.Test.YtbpbniemjjhecaaGreatZPChk14
section
namespace Go.Proofs.YtbpbniemjjhecaaGreat.PChk
open Go.RowKit Go.Proofs.YtbpbniemjjhecaaGreat.G Go.Proofs.YtbpbniemjjhecaaGreat.PChk Go.Proofs.YtbpbniemjjhecaaGreatW.PrintWords Go.Proofs.YtbpbniemjjhecaaGreatW.PrintLast Go.Proofs.YtbpbniemjjhecaaGreatW.PrintMore
attribute [local go_sem] max2_int min2_int max_two min_two max_three min_three max_four min_four
set_option linter.unusedVariables false
set_option linter.unusedSimpArgs false
end Go.Proofs.YtbpbniemjjhecaaGreat.PChk
end
section
namespace Go.Proofs.YtbpbniemjjhecaaGreat.PChk
open Go.RowKit Go.Proofs.YtbpbniemjjhecaaGreat.G Go.Proofs.YtbpbniemjjhecaaGreat.PChk Go.Proofs.YtbpbniemjjhecaaGreatW.PrintWords Go.Proofs.YtbpbniemjjhecaaGreatW.PrintLast Go.Proofs.YtbpbniemjjhecaaGreatW.PrintMore
attribute [local go_sem] max2_int min2_int max_two min_two max_three min_three max_four min_four
set_option linter.unusedVariables false
set_option linter.unusedSimpArgs false
set_option maxHeartbeats 8000000
set_option maxRecDepth 100000
def long12.l0 : Nat → List (S50) → Int → Option (Bool)
 | 0, _, _ => none
 | k + 1, x0, x3 => if x3 < (x0.length : Int) then (if 0 ≤ x3 then (if (((rd_T50 x0 x3).f1).size : Int) > 50 then (some true) else (if (((rd_T50 x0 x3).f2).size : Int) > 50 then (some true) else (long12.l0 k x0 (wrap64 (x3 + 1))))) else (none)) else (some false)
def long12.f (k : Nat) (l0 : List (S50)) : Option (Bool) := if (l0.length : Int) > 450 then (some true) else (long12.l0 k l0 0)
theorem long12.calls (k : Nat) (A0 : Option Addr) (c0 : Nat) (l0 : List (S50)) (r : Bool) (w : World) (hr0 : Kd.C k50 w A0 l0.length l0) (hc0 : l0.length ≤ c0) (h : long12.f k l0 = some r) :
  Calls Tryz.prog 7 #[.slice A0 l0.length c0] w fun e w' => e = .returned (.bool r) ∧ Drawn0 w w' := by
 have HR0 := aK hr0
 have HC0 := aK hc0
 clear hr0 hc0
 have H : (if (l0.length : Int) > 450 then (some true) else (long12.l0 k l0 0)) = some r := h
 clear h
 by_cases c2 : (l0.length : Int) > 450
 rotate_left
 ·
  rw [if_neg c2] at H; have c2b0 : decide (450 < (l0.length : Int)) = false := decide_eq_false c2
  have c2b1 : decide (450 < l0.length) = false := decide_eq_false (by omega)
  clear c2; have H' := aK H; clear H
  go_enter Tryz.func7, Tryz.ntmps7
  go_wp2
  go_loopg [3] k (fun kq v3 w' => ∃ (x3_1 : Int), v3 = .int .i64 x3_1 ∧ Aside0 (long12.l0 kq l0 x3_1 = some r) ∧ Aside0 (kq ≤ k) ∧ Drawn0 w w')
  case atStart => exact ⟨(0), sX, H', ⟨Nat.le_refl _⟩, dX⟩
  case round =>
   clear H'
   try clear c2
   try clear c2b0
   try clear c2b1
   try clear p2
   obtain ⟨x3_1, rfl, HA, HK1, ⟨m1, rfl⟩⟩ := hrel
   cases gk with
   | zero => exact absurd HA.out (by simp [long12.l0])
   | succ k1 =>
    have H := HA.out; clear HA
    simp only [long12.l0] at H
    by_cases c3 : x3_1 < (l0.length : Int)
    rotate_left
    ·
     rw [if_neg c3] at H; have c3b0 : decide (x3_1 < (l0.length : Int)) = false := decide_eq_false c3; clear c3; obtain rfl := oI H
     go_wp2
     go_ret
     exact ⟨sX, dX⟩
    rw [if_pos c3] at H; have c3b0 : decide (x3_1 < (l0.length : Int)) = true := decide_eq_true c3; clear c3
    by_cases c4 : 0 ≤ x3_1
    rotate_left
    ·
     rw [if_neg c4] at H
     exact absurd H (by simp)
    rw [if_pos c4] at H; have c4b0 : decide (0 ≤ x3_1) = true := decide_eq_true c4; clear c4
    by_cases c5 : (((rd_T50 l0 x3_1).f1).size : Int) > 50
    rotate_left
    ·
     rw [if_neg c5] at H; have c5b0 : decide (50 < (((rd_T50 l0 x3_1).f1).size : Int)) = false := decide_eq_false c5
     have c5b1 : decide (50 < ((rd_T50 l0 x3_1).f1).size) = false := decide_eq_false (by omega)
     clear c5
     by_cases c6 : (((rd_T50 l0 x3_1).f2).size : Int) > 50
     rotate_left
     ·
      rw [if_neg c6] at H; have c6b0 : decide (50 < (((rd_T50 l0 x3_1).f2).size : Int)) = false := decide_eq_false c6
      have c6b1 : decide (50 < ((rd_T50 l0 x3_1).f2).size) = false := decide_eq_false (by omega)
      clear c6; have H' := aK H; clear H; have p101 : 0 ≤ (x3_1 : Int) := oA; have q101 : x3_1 < (l0.length : Int) := oA
      obtain ⟨ad101, e101, hx101_0, hx101_1, hx101_2, hx101_3, hx101_4⟩ := at_T50 HR0.out x3_1 p101 q101
      cases e101
      replace p101 := eq_true p101; replace q101 := eq_true q101; have p102 : 0 ≤ (x3_1 : Int) := oA; have q102 : x3_1 < (l0.length : Int) := oA
      obtain ⟨ad102, e102, hx102_0, hx102_1, hx102_2, hx102_3, hx102_4⟩ := at_T50 HR0.out x3_1 p102 q102
      obtain rfl : ad101 = ad102 := (by injection e102)
      replace p102 := eq_true p102; replace q102 := eq_true q102
      go_wp2
      go_roundg k1
      case measure => have := HK1.out; omega
      case rel => exact ⟨(wrap64 (x3_1 + 1)), sX, H', ⟨by have := HK1.out; omega⟩, dX⟩
     rw [if_pos c6] at H; have c6b0 : decide (50 < (((rd_T50 l0 x3_1).f2).size : Int)) = true := decide_eq_true c6
     have c6b1 : decide (50 < ((rd_T50 l0 x3_1).f2).size) = true := decide_eq_true (by omega)
     clear c6; obtain rfl := oI H; have p101 : 0 ≤ (x3_1 : Int) := oA; have q101 : x3_1 < (l0.length : Int) := oA
     obtain ⟨ad101, e101, hx101_0, hx101_1, hx101_2, hx101_3, hx101_4⟩ := at_T50 HR0.out x3_1 p101 q101
     cases e101
     replace p101 := eq_true p101; replace q101 := eq_true q101; have p102 : 0 ≤ (x3_1 : Int) := oA; have q102 : x3_1 < (l0.length : Int) := oA
     obtain ⟨ad102, e102, hx102_0, hx102_1, hx102_2, hx102_3, hx102_4⟩ := at_T50 HR0.out x3_1 p102 q102
     obtain rfl : ad101 = ad102 := (by injection e102)
     replace p102 := eq_true p102; replace q102 := eq_true q102
     go_wp2
     go_ret
     exact ⟨sX, dX⟩
    rw [if_pos c5] at H; have c5b0 : decide (50 < (((rd_T50 l0 x3_1).f1).size : Int)) = true := decide_eq_true c5
    have c5b1 : decide (50 < ((rd_T50 l0 x3_1).f1).size) = true := decide_eq_true (by omega)
    clear c5; obtain rfl := oI H; have p101 : 0 ≤ (x3_1 : Int) := oA; have q101 : x3_1 < (l0.length : Int) := oA
    obtain ⟨ad101, e101, hx101_0, hx101_1, hx101_2, hx101_3, hx101_4⟩ := at_T50 HR0.out x3_1 p101 q101
    cases e101
    replace p101 := eq_true p101; replace q101 := eq_true q101
    go_wp2
    go_ret
    exact ⟨sX, dX⟩
 rw [if_pos c2] at H
 have c2b0 : decide (450 < (l0.length : Int)) = true := decide_eq_true c2
 have c2b1 : decide (450 < l0.length) = true := decide_eq_true (by omega)
 clear c2
 obtain rfl := oI H
 go_enter Tryz.func7, Tryz.ntmps7
 go_wp2
 go_ret
 exact ⟨sX, dX⟩
end Go.Proofs.YtbpbniemjjhecaaGreat.PChk
end
section
namespace Go.Proofs.YtbpbniemjjhecaaGreat.PChk
open Go.RowKit Go.Proofs.YtbpbniemjjhecaaGreat.G Go.Proofs.YtbpbniemjjhecaaGreatW.PrintWords Go.Proofs.YtbpbniemjjhecaaGreatW.PrintLast Go.Proofs.YtbpbniemjjhecaaGreatW.PrintMore
attribute [local go_sem] max2_int min2_int max_two min_two max_three min_three max_four min_four
set_option linter.unusedVariables false
set_option linter.unusedSimpArgs false
mutual
def r11_Eligible.j0 : Nat → ByteArray → Int → Int → Bool → Int → ByteArray → ByteArray → Int → Int → Option (Bool)
 | 0, _, _, _, _, _, _, _, _, _ => none
 | k + 1, x1, x2, x3, x22, x345000, x345001, x345002, x345003, x345004 => if x22 = true then (some false) else (if (x345001.size : Int) = 0 then (r11_Eligible.j1 k x1 x2 (x345001.size : Int) true x345000 x345001 x345002 x345003 x345004) else (if (x345001.size : Int) > x3 then (r11_Eligible.j1 k x1 x2 (x345001.size : Int) true x345000 x345001 x345002 x345003 x345004) else (if (x345001.size : Int) > (wrap64 ((x1.size : Int) - x2)) then (r11_Eligible.j1 k x1 x2 (x345001.size : Int) true x345000 x345001 x345002 x345003 x345004) else (if 0 ≤ x2 then (if x2 ≤ (wrap64 (x2 + (x345001.size : Int))) then (if (wrap64 (x2 + (x345001.size : Int))) ≤ (x1.size : Int) then (r11_Eligible.j1 k x1 x2 (x345001.size : Int) ((x1.extract (x2 : Int).toNat ((wrap64 (x2 + (x345001.size : Int))) : Int).toNat).toList != x345001.toList) x345000 x345001 x345002 x345003 x345004) else (none)) else (none)) else (none)))))
def r11_Eligible.j1 : Nat → ByteArray → Int → Int → Bool → Int → ByteArray → ByteArray → Int → Int → Option (Bool)
 | 0, _, _, _, _, _, _, _, _, _ => none
 | k + 1, x1, x2, x9, x51, x345000, x345001, x345002, x345003, x345004 => if x51 = true then (some false) else (if x345000 = 1 then (some true) else (if x345000 = 2 then (some (x2 == 0)) else (if x345000 = 3 then (some (decide (x2 > 0))) else (if x345000 = 4 then (if x2 > 0 then (some ((wrap64 (x2 + x9)) == (x1.size : Int))) else (some false)) else (some false)))))
end
def r11_Eligible.f (k : Nat) (a0_0 : Int) (a0_1 : ByteArray) (a0_2 : ByteArray) (a0_3 : Int) (a0_4 : Int) (a1 : ByteArray) (a2 : Int) (a3 : Int) : Option (Bool) := (r11_Run.f k a1).bind fun t345 => (if t345 = true then (if a2 < 0 then (r11_Eligible.j0 k a1 a2 a3 true a0_0 a0_1 a0_2 a0_3 a0_4) else (r11_Eligible.j0 k a1 a2 a3 (decide (a2 ≥ (a1.size : Int))) a0_0 a0_1 a0_2 a0_3 a0_4)) else (r11_Eligible.j0 k a1 a2 a3 true a0_0 a0_1 a0_2 a0_3 a0_4))
def r11_Best.l0 : Nat → List (S50) → ByteArray → Int → Int → Int → Int → Option (Int × Bool)
 | 0, _, _, _, _, _, _ => none
 | k + 1, x0, x1, x2, x3, x10, x11 => if x11 < (x0.length : Int) then (if 0 ≤ x11 then ((r11_Eligible.f k ((rd_T50 x0 x11).f0) ((rd_T50 x0 x11).f1) ((rd_T50 x0 x11).f2) ((rd_T50 x0 x11).f3) ((rd_T50 x0 x11).f4) x1 x2 x3).bind fun t347 => (if t347 = true then (if x10 < 0 then (r11_Best.l0 k x0 x1 x2 x3 x11 (wrap64 (x11 + 1))) else (if 0 ≤ x10 then (if x10 < (x0.length : Int) then (if ((rd_T50 x0 x11).f3) < ((rd_T50 x0 x10).f3) then (r11_Best.l0 k x0 x1 x2 x3 x11 (wrap64 (x11 + 1))) else (if ((rd_T50 x0 x11).f3) = ((rd_T50 x0 x10).f3) then (if (((rd_T50 x0 x11).f1).size : Int) > (((rd_T50 x0 x10).f1).size : Int) then (r11_Best.l0 k x0 x1 x2 x3 x11 (wrap64 (x11 + 1))) else (r11_Best.l0 k x0 x1 x2 x3 x10 (wrap64 (x11 + 1)))) else (r11_Best.l0 k x0 x1 x2 x3 x10 (wrap64 (x11 + 1))))) else (none)) else (none))) else (r11_Best.l0 k x0 x1 x2 x3 x10 (wrap64 (x11 + 1))))) else (none)) else (if x10 < 0 then (some (0, false)) else (some (x10, true)))
def r11_Best.f (k : Nat) (l0 : List (S50)) (a1 : ByteArray) (a2 : Int) (a3 : Int) : Option (Int × Bool) := r11_Best.l0 k l0 a1 a2 a3 (-1) 0
end Go.Proofs.YtbpbniemjjhecaaGreat.PChk
end
section
namespace Go.Proofs.YtbpbniemjjhecaaGreat.PChk
open Go.RowKit Go.Proofs.YtbpbniemjjhecaaGreat.G Go.Proofs.YtbpbniemjjhecaaGreatW.PrintWords Go.Proofs.YtbpbniemjjhecaaGreatW.PrintLast Go.Proofs.YtbpbniemjjhecaaGreatW.PrintMore
attribute [local go_sem] max2_int min2_int max_two min_two max_three min_three max_four min_four
set_option linter.unusedVariables false
set_option linter.unusedSimpArgs false
mutual
def r11_All.j0 : Nat → List (S50) → ByteArray → Int → Bool → Option (List Int)
 | 0, _, _, _, _ => none
 | k + 1, x0, x1, x2, x17 => if x17 = true then (some ([] : List Int)) else (r11_All.l0 k x0 x1 ([] : List Int) x2)
def r11_All.l0 : Nat → List (S50) → ByteArray → List Int → Int → Option (List Int)
 | 0, _, _, _, _ => none
 | k + 1, x0, x1, x7, x8 => if x8 < (x1.size : Int) then ((r11_Best.f k x0 x1 x8 (x1.size : Int)).bind fun bt355 => (if x7.length < 17592186044416 then (if 0 ≤ bt355.1 then (if bt355.1 < (x0.length : Int) then (r11_All.l0 k x0 x1 (x7 ++ [bt355.1]) (wrap64 (x8 + (((rd_T50 x0 bt355.1).f1).size : Int)))) else (none)) else (none)) else (none))) else (some x7)
end
def r11_All.f (k : Nat) (l0 : List (S50)) (a1 : ByteArray) (a2 : Int) : Option (List Int) := (r11_Run.f k a1).bind fun t354 => (if t354 = true then (r11_All.j0 k l0 a1 a2 (decide (a2 < 0))) else (r11_All.j0 k l0 a1 a2 true))
def r12_capital.f (k : Nat) (a0 : ByteArray) (a1 : Int) : Option (Bool) := if a1 < (a0.size : Int) then (if 0 ≤ a1 then ((r1_Class.f k (bt a0 a1)).bind fun t361 => (some (t361 == 2))) else (none)) else (some false)
mutual
def r12_run.l0 : Nat → List (S50) → Int → Int → List (S48) → List Int → Int → Option ((List (S48)))
 | 0, _, _, _, _, _, _ => none
 | k + 1, x0, x2, x3, x10, x11, x12 => if x12 < (x11.length : Int) then (if 0 ≤ x12 then (if 0 ≤ (rd x11 x12) then (if (rd x11 x12) < (x0.length : Int) then (if x10.length < 5864062014805 then (r12_run.l0 k x0 x2 (wrap64 (x3 + (((rd_T50 x0 (rd x11 x12)).f1).size : Int))) (x10 ++ [(⟨rd x11 x12, wrap64 (x2 + x3), (((rd_T50 x0 (rd x11 x12)).f1).size : Int)⟩ : S48)]) x11 (wrap64 (x12 + 1))) else (none)) else (none)) else (none)) else (none)) else (some x10)
def r12_run.j1 : Nat → List (S50) → ByteArray → Int → Int → ByteArray → List (S48) → Int → Option ((List (S48)))
 | 0, _, _, _, _, _, _, _ => none
 | k + 1, x0, x1, x2, x3, x9, x10, x14 => r12_run.l1 k x0 x1 x2 x3 x9 x10 x14
def r12_run.l1 : Nat → List (S50) → ByteArray → Int → Int → ByteArray → List (S48) → Int → Option ((List (S48)))
 | 0, _, _, _, _, _, _, _ => none
 | k + 1, x0, x1, x2, x3, x9, x10, x14 => if (wrap64 (x3 + x14)) < (x1.size : Int) then ((r12_capital.f k x1 (wrap64 (x3 + x14))).bind fun t382 => (if t382 = true then ((r11_Best.f k x0 x9 x3 x14).bind fun bt383 => (if 0 ≤ bt383.1 then (if bt383.1 < (x0.length : Int) then (if x10.length < 5864062014805 then ((some (x10 ++ [(⟨bt383.1, wrap64 (x2 + x3), (((rd_T50 x0 bt383.1).f1).size : Int)⟩ : S48)] : List (S48))).bind fun y386 => ((r12_run.f k x0 x1 x2 (wrap64 (x3 + (((rd_T50 x0 bt383.1).f1).size : Int)))).bind fun t389 => (if y386.length + t389.length < 5864062014805 then (some (y386 ++ t389)) else (none)))) else (none)) else (none)) else (none))) else (r12_run.l1 k x0 x1 x2 x3 x9 x10 (wrap64 (x14 + 1))))) else ((r11_Best.f k x0 x9 x3 x14).bind fun bt395 => (if 0 ≤ bt395.1 then (if bt395.1 < (x0.length : Int) then (if x10.length < 5864062014805 then ((some (x10 ++ [(⟨bt395.1, wrap64 (x2 + x3), (((rd_T50 x0 bt395.1).f1).size : Int)⟩ : S48)] : List (S48))).bind fun y398 => ((r12_run.f k x0 x1 x2 (wrap64 (x3 + (((rd_T50 x0 bt395.1).f1).size : Int)))).bind fun t401 => (if y398.length + t401.length < 5864062014805 then (some (y398 ++ t401)) else (none)))) else (none)) else (none)) else (none)))
def r12_run.f : Nat → List (S50) → ByteArray → Int → Int → Option ((List (S48)))
 | 0, _, _, _, _ => none
 | k + 1, l0, a1, a2, a3 => if a3 ≥ (a1.size : Int) then (some ([] : List (S48))) else ((r1_Low.f k a1).bind fun t362 => (if 0 ≤ a3 then (if a3 ≤ (a1.size : Int) then ((r1_Case.f k (a1.extract (a3 : Int).toNat a1.size)).bind fun t363 => (if t363 = 3 then ((r12_rule.f k l0 8 (⟨#[99, 97, 112, 115]⟩ : ByteArray)).bind fun t364 => (if ([] : List (S48)).length < 5864062014805 then ((r11_All.f k l0 t362 a3).bind fun t368 => (r12_run.l0 k l0 a2 a3 (([] : List (S48)) ++ [(⟨t364, wrap64 (a2 + a3), 0⟩ : S48)]) t368 0)) else (none))) else ((r12_capital.f k a1 a3).bind fun t377 => (if t377 = true then ((r12_rule.f k l0 8 (⟨#[99, 97, 112]⟩ : ByteArray)).bind fun t378 => (if ([] : List (S48)).length < 5864062014805 then (r12_run.j1 k l0 a1 a2 a3 t362 (([] : List (S48)) ++ [(⟨t378, wrap64 (a2 + a3), 0⟩ : S48)]) 1) else (none))) else (r12_run.j1 k l0 a1 a2 a3 t362 ([] : List (S48)) 0))))) else (none)) else (none)))
end
end Go.Proofs.YtbpbniemjjhecaaGreat.PChk
end
section
namespace Go.Proofs.YtbpbniemjjhecaaGreat.PChk
open Go.RowKit Go.Proofs.YtbpbniemjjhecaaGreat.G Go.Proofs.YtbpbniemjjhecaaGreatW.PrintWords Go.Proofs.YtbpbniemjjhecaaGreatW.PrintLast Go.Proofs.YtbpbniemjjhecaaGreatW.PrintMore
attribute [local go_sem] max2_int min2_int max_two min_two max_three min_three max_four min_four
set_option linter.unusedVariables false
set_option linter.unusedSimpArgs false
mutual
def r12_Spelled.l0 : Nat → List (S50) → List (S42) → List (S48) → Int → Option ((List (S48)))
 | 0, _, _, _, _ => none
 | k + 1, x0, x1, x5, x6 => if x6 < (x1.length : Int) then (if x6 > 0 then (if 0 ≤ (wrap64 (x6 - 1)) then (if (wrap64 (x6 - 1)) < (x1.length : Int) then ((r12_Is.f k ((rd_T42 x1 (wrap64 (x6 - 1))).f0) ((rd_T42 x1 (wrap64 (x6 - 1))).f1) ((rd_T42 x1 (wrap64 (x6 - 1))).f2) 3).bind fun t408 => (r12_Spelled.j1 k x0 x1 x5 x6 t408)) else (none)) else (none)) else (r12_Spelled.j1 k x0 x1 x5 x6 false)) else (some x5)
def r12_Spelled.j1 : Nat → List (S50) → List (S42) → List (S48) → Int → Bool → Option ((List (S48)))
 | 0, _, _, _, _, _ => none
 | k + 1, x0, x1, x5, x6, x7 => if 0 ≤ x6 then (if x6 < (x1.length : Int) then ((r12_letter.f k ((rd_T42 x1 x6).f0) ((rd_T42 x1 x6).f1) ((rd_T42 x1 x6).f2)).bind fun t410 => (if t410 = true then (r12_Spelled.l1 k x0 x1 x5 x6 x7 x6) else ((some (([(rd_T42 x1 x6).f1] : List Int) : List Int)).bind fun y440 => ((r12_Is.f k ((rd_T42 x1 x6).f0) ((rd_T42 x1 x6).f1) ((rd_T42 x1 x6).f2) 3).bind fun t444 => (if t444 = true then (if x7 = true then ((r12_rule.f k x0 7 (strOfNums y440)).bind fun t445 => (if x5.length < 5864062014805 then (r12_Spelled.l0 k x0 x1 (x5 ++ [(⟨t445, x6, 1⟩ : S48)]) (wrap64 (x6 + 1))) else (none))) else ((r12_rule.f k x0 8 (⟨#[110, 117, 109]⟩ : ByteArray)).bind fun t449 => (if x5.length < 5864062014805 then ((some (x5 ++ [(⟨t449, x6, 0⟩ : S48)] : List (S48))).bind fun y450 => ((r12_rule.f k x0 7 (strOfNums y440)).bind fun t453 => (if y450.length < 5864062014805 then (r12_Spelled.l0 k x0 x1 (y450 ++ [(⟨t453, x6, 1⟩ : S48)]) (wrap64 (x6 + 1))) else (none)))) else (none)))) else ((r12_Is.f k ((rd_T42 x1 x6).f0) ((rd_T42 x1 x6).f1) ((rd_T42 x1 x6).f2) 4).bind fun t458 => (if t458 = true then ((r12_rule.f k x0 6 (strOfNums y440)).bind fun t459 => (if x5.length < 5864062014805 then (r12_Spelled.l0 k x0 x1 (x5 ++ [(⟨t459, x6, 1⟩ : S48)]) (wrap64 (x6 + 1))) else (none))) else ((r12_Mark.f k ((rd_T42 x1 x6).f0) ((rd_T42 x1 x6).f1) ((rd_T42 x1 x6).f2)).bind fun t464 => ((r12_rule.f k x0 8 t464).bind fun t465 => (if x5.length < 5864062014805 then (r12_Spelled.l0 k x0 x1 (x5 ++ [(⟨t465, x6, 1⟩ : S48)]) (wrap64 (x6 + 1))) else (none))))))))))) else (none)) else (none)
def r12_Spelled.j3 : Nat → List (S50) → List (S42) → List (S48) → Int → Bool → Int → Option ((List (S48)))
 | 0, _, _, _, _, _, _ => none
 | k + 1, x0, x1, x5, x6, x7, x8 => if x7 = true then ((r12_rule.f k x0 8 (⟨#[108, 101, 116]⟩ : ByteArray)).bind fun t413 => (if x5.length < 5864062014805 then ((some (x5 ++ [(⟨t413, x6, 0⟩ : S48)] : List (S48))).bind fun y414 => (if 0 ≤ x6 then (if x6 ≤ x8 then (if x8 ≤ (x1.length : Int) then ((r12_Text.f k ((x1.take (x8 : Int).toNat).drop (x6 : Int).toNat)).bind fun t421 => ((r12_run.f k x0 t421 x6 0).bind fun t422 => (if y414.length + t422.length < 5864062014805 then (r12_Spelled.l0 k x0 x1 (y414 ++ t422) x8) else (none)))) else (none)) else (none)) else (none))) else (none))) else (if 0 ≤ x6 then (if x6 ≤ x8 then (if x8 ≤ (x1.length : Int) then ((r12_Text.f k ((x1.take (x8 : Int).toNat).drop (x6 : Int).toNat)).bind fun t432 => ((r12_run.f k x0 t432 x6 0).bind fun t433 => (if x5.length + t433.length < 5864062014805 then (r12_Spelled.l0 k x0 x1 (x5 ++ t433) x8) else (none)))) else (none)) else (none)) else (none))
def r12_Spelled.l1 : Nat → List (S50) → List (S42) → List (S48) → Int → Bool → Int → Option ((List (S48)))
 | 0, _, _, _, _, _, _ => none
 | k + 1, x0, x1, x5, x6, x7, x8 => if x8 < (x1.length : Int) then (if 0 ≤ x8 then ((r12_letter.f k ((rd_T42 x1 x8).f0) ((rd_T42 x1 x8).f1) ((rd_T42 x1 x8).f2)).bind fun t412 => (if t412 = true then (r12_Spelled.l1 k x0 x1 x5 x6 x7 (wrap64 (x8 + 1))) else (r12_Spelled.j3 k x0 x1 x5 x6 x7 x8))) else (none)) else (r12_Spelled.j3 k x0 x1 x5 x6 x7 x8)
end
def r12_Spelled.f (k : Nat) (l0 : List (S50)) (l1 : List (S42)) : Option ((List (S48))) := r12_Spelled.l0 k l0 l1 ([] : List (S48)) 0
end Go.Proofs.YtbpbniemjjhecaaGreat.PChk
end
section
namespace Go.Proofs.YtbpbniemjjhecaaGreat.PChk
open Go.RowKit Go.Proofs.YtbpbniemjjhecaaGreat.G Go.Proofs.YtbpbniemjjhecaaGreatW.PrintWords Go.Proofs.YtbpbniemjjhecaaGreatW.PrintLast Go.Proofs.YtbpbniemjjhecaaGreatW.PrintMore
attribute [local go_sem] max2_int min2_int max_two min_two max_three min_three max_four min_four
set_option linter.unusedVariables false
set_option linter.unusedSimpArgs false
theorem eqA48 (d : Nat) (w : World) (x0 y0 : Int) (x1 y1 : Int) (x2 y2 : Int) :
  (Op.equalIn (d + 2) 48 (.agg #[.int .i64 x0, .int .i64 x1, .int .i64 x2]) (.agg #[.int .i64 y0, .int .i64 y1, .int .i64 y2])).run Tryz.prog w = .ok (x0 == y0 && (x1 == y1 && (x2 == y2))) w := by
 refine eqA_of Tryz.underlying48 (by kernel_rfl) ?_
 refine eqf_cons (by rfl) (by go_simp; rfl) (by go_simp; rfl) (by go_simp) ?_
 refine eqf_cons (by rfl) (by go_simp; rfl) (by go_simp; rfl) (by go_simp) ?_
 exact eqf_last (by rfl) (by go_simp; rfl) (by go_simp; rfl) (by go_simp)
end Go.Proofs.YtbpbniemjjhecaaGreat.PChk
end
section
namespace Go.Proofs.YtbpbniemjjhecaaGreat.PChk
open Go.RowKit Go.Proofs.YtbpbniemjjhecaaGreat.G Go.Proofs.YtbpbniemjjhecaaGreatW.PrintWords Go.Proofs.YtbpbniemjjhecaaGreatW.PrintLast Go.Proofs.YtbpbniemjjhecaaGreatW.PrintMore
attribute [local go_sem] max2_int min2_int max_two min_two max_three min_three max_four min_four
set_option linter.unusedVariables false
set_option linter.unusedSimpArgs false
attribute [local go_sem high] eqA48
def r12_Cells.l0 : Nat → List (S50) → List (S48) → ByteArray → Int → Option (ByteArray)
 | 0, _, _, _, _ => none
 | k + 1, x0, x1, x5, x6 => if x6 < (x1.length : Int) then (if 0 ≤ x6 then (if ((rd_T48 x1 x6).f0) < 0 then (some (⟨#[]⟩ : ByteArray)) else (if ((rd_T48 x1 x6).f0) ≥ (x0.length : Int) then (some (⟨#[]⟩ : ByteArray)) else (if 0 ≤ ((rd_T48 x1 x6).f0) then (if ((rd_T48 x1 x6).f0) < (x0.length : Int) then (if x5.size + ((rd_T50 x0 ((rd_T48 x1 x6).f0)).f2).size ≤ 9223372036854775807 then (r12_Cells.l0 k x0 x1 (x5 ++ ((rd_T50 x0 ((rd_T48 x1 x6).f0)).f2)) (wrap64 (x6 + 1))) else (none)) else (none)) else (none)))) else (none)) else (some x5)
def r12_Cells.f (k : Nat) (l0 : List (S50)) (l1 : List (S48)) : Option (ByteArray) := r12_Cells.l0 k l0 l1 (⟨#[]⟩ : ByteArray) 0
def r10_Sign.f (k : Nat) (l0 : List (S50)) (a1 : ByteArray) : Option (ByteArray) := (r10_Find.f k l0 8 a1).bind fun bt473 => (if bt473.2 = true then (if 0 ≤ bt473.1 then (if bt473.1 < (l0.length : Int) then (some ((rd_T50 l0 bt473.1).f2)) else (none)) else (none)) else (some (⟨#[]⟩ : ByteArray)))
def r10_Word.l0 : Nat → List (S50) → ByteArray → Int → Option (Int × Bool)
 | 0, _, _, _ => none
 | k + 1, x0, x1, x6 => if x6 < (x0.length : Int) then (if 0 ≤ x6 then (if ((rd_T50 x0 x6).f0) = 5 then (if ((rd_T50 x0 x6).f2).toList = x1.toList then (some (x6, true)) else (r10_Word.l0 k x0 x1 (wrap64 (x6 + 1)))) else (r10_Word.l0 k x0 x1 (wrap64 (x6 + 1)))) else (none)) else (some (0, false))
def r10_Word.f (k : Nat) (l0 : List (S50)) (a1 : ByteArray) : Option (Int × Bool) := r10_Word.l0 k l0 a1 0
def r12_looks.f (k : Nat) (l0 : List (S50)) (a1 : ByteArray) : Option (Bool) := (r10_Sign.f k l0 (⟨#[99, 97, 112]⟩ : ByteArray)).bind fun t478 => ((r10_Sign.f k l0 (⟨#[99, 97, 112, 115]⟩ : ByteArray)).bind fun t479 => ((r9_Begins.f t478 a1).bind fun t480 => (if t480 = true then (if 0 ≤ (t478.size : Int) then (if (t478.size : Int) ≤ (a1.size : Int) then ((r10_Word.f k l0 (a1.extract ((t478.size : Int) : Int).toNat a1.size)).bind fun bt481 => (some bt481.2)) else (none)) else (none)) else ((r9_Begins.f t479 a1).bind fun t483 => (if t483 = true then (if 0 ≤ (t479.size : Int) then (if (t479.size : Int) ≤ (a1.size : Int) then ((r10_Word.f k l0 (a1.extract ((t479.size : Int) : Int).toNat a1.size)).bind fun bt484 => (some bt484.2)) else (none)) else (none)) else ((r10_Word.f k l0 a1).bind fun bt486 => (some bt486.2)))))))
def r12_Of.f (k : Nat) (l0 : List (S50)) (l1 : List (S42)) : Option ((List (S48))) := (r12_Word.f k l0 l1).bind fun bt488 => (if bt488.2 = true then (some bt488.1) else ((r12_Spelled.f k l0 l1).bind fun t492 => ((r12_Cells.f k l0 t492).bind fun t495 => ((r12_looks.f k l0 t495).bind fun t496 => (if t496 = true then ((r12_rule.f k l0 8 (⟨#[108, 101, 116]⟩ : ByteArray)).bind fun t497 => ((some (([(⟨t497, 0, 0⟩ : S48)] : List (S48)) : List (S48))).bind fun y498 => (if y498.length + t492.length < 5864062014805 then (some (y498 ++ t492)) else (none)))) else (some t492))))))
def r12_Same.l0 : Nat → List (S48) → List (S48) → Int → Option (Bool)
 | 0, _, _, _ => none
 | k + 1, x0, x1, x5 => if x5 < (x0.length : Int) then (if 0 ≤ x5 then (if x5 < (x1.length : Int) then (if (!(((rd_T48 x0 x5).f0) == ((rd_T48 x1 x5).f0)) || (!(((rd_T48 x0 x5).f1) == ((rd_T48 x1 x5).f1)) || (!(((rd_T48 x0 x5).f2) == ((rd_T48 x1 x5).f2))))) = true then (some false) else (r12_Same.l0 k x0 x1 (wrap64 (x5 + 1)))) else (none)) else (none)) else (some true)
def r12_Same.f (k : Nat) (l0 : List (S48)) (l1 : List (S48)) : Option (Bool) := if (l0.length : Int) = (l1.length : Int) then (r12_Same.l0 k l0 l1 0) else (some false)
end Go.Proofs.YtbpbniemjjhecaaGreat.PChk
end
