-- Written by a program of this session (prt.py), out of the translation. Lean checks it.
import Derived.Test.YtgjkjoocnkdckaaGreatDoorZGClear
import Derived.Test.YtgjkjoocnkdckaaGreatDoorZGRulRef
import Derived.Test.YtgjkjoocnkdckaaGreatDoorZGRulOf
import Derived.Test.YtgjkjoocnkdckaaGreatDoorZPChk0
import Derived.Test.YtgjkjoocnkdckaaGreatDoorZPChk2
import Derived.Test.YtgjkjoocnkdckaaGreatDoorZPChk3
import Derived.Test.YtgjkjoocnkdckaaGreatDoorZPChk4
import Derived.Test.YtgjkjoocnkdckaaGreatDoorZPChk5
import Derived.Test.YtgjkjoocnkdckaaGreatDoorZPChk12
import Derived.Test.YtgjkjoocnkdckaaGreatDoorZPChk14
import Derived.Test.YtgjkjoocnkdckaaGreatDoorZPChk15
namespace Go.Proofs.YtgjkjoocnkdckaaGreatDoor.PChk
open Go.RowKit Go.Proofs.YtgjkjoocnkdckaaGreatDoor.G Go.Proofs.YtgjkjoocnkdckaaGreatDoorW.PrintWords Go.Proofs.YtgjkjoocnkdckaaGreatDoorW.PrintLast Go.Proofs.YtgjkjoocnkdckaaGreatDoorW.PrintMore
attribute [local go_sem] max2_int min2_int max_two min_two max_three min_three max_four min_four   -- for this text's walks alone
set_option linter.unusedVariables false
set_option linter.unusedSimpArgs false
mutual
def w8_RulesPrints.j0 : Nat → List (S47) → ByteArray → Int → Bool → Option (Bool)
 | 0, _, _, _, _ => none
 | k + 1, x0, x1, x2, x22 => if x22 = true then ((w8_awake.f k).bind fun t342 => (some t342)) else ((some (([] : List (S47)) : List (S47))).bind fun y343 => (if y343.length + x0.length < 2513169434916 then ((some (y343 ++ x0 : List (S47))).bind fun y346 => ((rules_Print.f y346).bind fun bt349 => ((r8_Print.f x0).bind fun bt351 => (if bt349.1.toList = bt351.1.toList then (if bt349.2 = bt351.2 then ((rules_Sign.f y346 x1).bind fun t353 => ((r8_Sign.f k x0 x1).bind fun t354 => (if t353.toList = t354.toList then ((rules_Mark.f y346 x2).bind fun t355 => ((r8_Mark.f k x0 x2).bind fun t356 => (if t355.toList = t356.toList then ((rules_Digit.f y346 x2).bind fun t357 => ((r8_Digit.f k x0 x2).bind fun t358 => (w8_RulesPrints.j1 k x0 y346 (t357.toList != t358.toList)))) else (w8_RulesPrints.j1 k x0 y346 true)))) else (w8_RulesPrints.j1 k x0 y346 true)))) else (w8_RulesPrints.j1 k x0 y346 true)) else (w8_RulesPrints.j1 k x0 y346 true))))) else (none)))
def w8_RulesPrints.j1 : Nat → List (S47) → List (S47) → Bool → Option (Bool)
 | 0, _, _, _ => none
 | k + 1, x0, x7, x71 => if x71 = true then (some false) else ((rules_Names.f).bind fun t359 => ((r8_Names.f).bind fun t362 => (w8_RulesPrints.l0 k x0 x7 t359 t362 0)))
def w8_RulesPrints.l0 : Nat → List (S47) → List (S47) → List ByteArray → List ByteArray → Int → Option (Bool)
 | 0, _, _, _, _, _ => none
 | k + 1, x0, x7, x12, x13, x14 => if x14 < (x13.length : Int) then (if (x12.length : Int) = (x13.length : Int) then (if 0 ≤ x14 then (if x14 < (x12.length : Int) then (if (rdOf ByteArray.empty x12 x14).toList = (rdOf ByteArray.empty x13 x14).toList then (w8_RulesPrints.l0 k x0 x7 x12 x13 (wrap64 (x14 + 1))) else (some false)) else (none)) else (none)) else (some false)) else (if x12.length < 8796093022208 then (w8_RulesPrints.l1 k x0 x7 0) else (none))
def w8_RulesPrints.l1 : Nat → List (S47) → List (S47) → Int → Option (Bool)
 | 0, _, _, _ => none
 | k + 1, x0, x7, x15 => if x15 < (x0.length : Int) then (w8_RulesPrints.j4 k x0 x7 x15 (decide (x15 < 50))) else (w8_RulesPrints.j4 k x0 x7 x15 false)
def w8_RulesPrints.j4 : Nat → List (S47) → List (S47) → Int → Bool → Option (Bool)
 | 0, _, _, _, _ => none
 | k + 1, x0, x7, x15, x104 => if x104 = true then (if 0 ≤ x15 then (if x15 < (x7.length : Int) then ((rules_May.f k ((rd_T47 x7 x15).f0) ((rd_T47 x7 x15).f1) ((rd_T47 x7 x15).f2) ((rd_T47 x7 x15).f3) ((rd_T47 x7 x15).f4)).bind fun t373 => (if x15 < (x0.length : Int) then ((r8_May.f k ((rd_T47 x0 x15).f0) ((rd_T47 x0 x15).f1) ((rd_T47 x0 x15).f2) ((rd_T47 x0 x15).f3) ((rd_T47 x0 x15).f4)).bind fun t375 => (if (t373 != t375) = true then (some false) else (w8_RulesPrints.l1 k x0 x7 (wrap64 (x15 + 1))))) else (none))) else (none)) else (none)) else ((r8_Same.f k x7 x0).bind fun t370 => (if t370 = true then ((w8_awake.f k).bind fun t371 => (some t371)) else (some false)))
end
def w8_RulesPrints.f (k : Nat) (l0 : List (S47)) (a1 : ByteArray) (a2 : Int) : Option (Bool) := (w8_long.f k l0).bind fun t341 => (if t341 = true then (w8_RulesPrints.j0 k l0 a1 a2 true) else (w8_RulesPrints.j0 k l0 a1 a2 (decide ((a1.size : Int) > 50))))
theorem w8_RulesPrints.mono_l : ∀ k, (∀ y0 y1 y2 y3, LeO (w8_RulesPrints.j0 k y0 y1 y2 y3) (w8_RulesPrints.j0 (k + 1) y0 y1 y2 y3)) ∧ (∀ y0 y1 y2, LeO (w8_RulesPrints.j1 k y0 y1 y2) (w8_RulesPrints.j1 (k + 1) y0 y1 y2)) ∧ (∀ y0 y1 y2 y3 y4, LeO (w8_RulesPrints.l0 k y0 y1 y2 y3 y4) (w8_RulesPrints.l0 (k + 1) y0 y1 y2 y3 y4)) ∧ (∀ y0 y1 y2, LeO (w8_RulesPrints.l1 k y0 y1 y2) (w8_RulesPrints.l1 (k + 1) y0 y1 y2)) ∧ (∀ y0 y1 y2 y3, LeO (w8_RulesPrints.j4 k y0 y1 y2 y3) (w8_RulesPrints.j4 (k + 1) y0 y1 y2 y3))
 | 0 => ⟨fun _ _ _ _ r h => by simp [w8_RulesPrints.j0] at h, fun _ _ _ r h => by simp [w8_RulesPrints.j1] at h, fun _ _ _ _ _ r h => by simp [w8_RulesPrints.l0] at h, fun _ _ _ r h => by simp [w8_RulesPrints.l1] at h, fun _ _ _ _ r h => by simp [w8_RulesPrints.j4] at h⟩
 | k + 1 => by
  obtain ⟨ih0, ih1, ih2, ih3, ih4⟩ := w8_RulesPrints.mono_l k
  refine ⟨?_, ?_, ?_, ?_, ?_⟩
  ·
   intro y0 y1 y2 y3
   unfold w8_RulesPrints.j0
   repeat' first
   | (with_reducible exact ih0 _ _ _ _)
   | (with_reducible exact ih1 _ _ _)
   | (with_reducible exact ih2 _ _ _ _ _)
   | (with_reducible exact ih3 _ _ _)
   | (with_reducible exact ih4 _ _ _ _)
   | (with_reducible exact rules_May.mono _ _ _ _ _ _)
   | (with_reducible exact w8_awake.mono _)
   | (with_reducible exact w8_long.mono _ _)
   | (with_reducible exact r8_Digit.mono _ _ _)
   | (with_reducible exact r8_Mark.mono _ _ _)
   | (with_reducible exact r8_May.mono _ _ _ _ _ _)
   | (with_reducible exact r8_Same.mono _ _ _)
   | (with_reducible exact r8_Sign.mono _ _ _)
   | (with_reducible exact LeO.refl _)
   | (with_reducible exact LeO.none _)
   | (with_reducible refine LeO.ite ?_ ?_)
   | (with_reducible refine LeO.bind ?_ (fun _ => ?_))
   | exact ih0 _ _ _ _
   | exact ih1 _ _ _
   | exact ih2 _ _ _ _ _
   | exact ih3 _ _ _
   | exact ih4 _ _ _ _
   | exact rules_May.mono _ _ _ _ _ _
   | exact w8_awake.mono _
   | exact w8_long.mono _ _
   | exact r8_Digit.mono _ _ _
   | exact r8_Mark.mono _ _ _
   | exact r8_May.mono _ _ _ _ _ _
   | exact r8_Same.mono _ _ _
   | exact r8_Sign.mono _ _ _
   | exact LeO.none _
   | refine LeO.ite ?_ ?_
   | refine LeO.bind ?_ (fun _ => ?_)
  ·
   intro y0 y1 y2
   unfold w8_RulesPrints.j1
   repeat' first
   | (with_reducible exact ih0 _ _ _ _)
   | (with_reducible exact ih1 _ _ _)
   | (with_reducible exact ih2 _ _ _ _ _)
   | (with_reducible exact ih3 _ _ _)
   | (with_reducible exact ih4 _ _ _ _)
   | (with_reducible exact rules_May.mono _ _ _ _ _ _)
   | (with_reducible exact w8_awake.mono _)
   | (with_reducible exact w8_long.mono _ _)
   | (with_reducible exact r8_Digit.mono _ _ _)
   | (with_reducible exact r8_Mark.mono _ _ _)
   | (with_reducible exact r8_May.mono _ _ _ _ _ _)
   | (with_reducible exact r8_Same.mono _ _ _)
   | (with_reducible exact r8_Sign.mono _ _ _)
   | (with_reducible exact LeO.refl _)
   | (with_reducible exact LeO.none _)
   | (with_reducible refine LeO.ite ?_ ?_)
   | (with_reducible refine LeO.bind ?_ (fun _ => ?_))
   | exact ih0 _ _ _ _
   | exact ih1 _ _ _
   | exact ih2 _ _ _ _ _
   | exact ih3 _ _ _
   | exact ih4 _ _ _ _
   | exact rules_May.mono _ _ _ _ _ _
   | exact w8_awake.mono _
   | exact w8_long.mono _ _
   | exact r8_Digit.mono _ _ _
   | exact r8_Mark.mono _ _ _
   | exact r8_May.mono _ _ _ _ _ _
   | exact r8_Same.mono _ _ _
   | exact r8_Sign.mono _ _ _
   | exact LeO.none _
   | refine LeO.ite ?_ ?_
   | refine LeO.bind ?_ (fun _ => ?_)
  ·
   intro y0 y1 y2 y3 y4
   unfold w8_RulesPrints.l0
   repeat' first
   | (with_reducible exact ih0 _ _ _ _)
   | (with_reducible exact ih1 _ _ _)
   | (with_reducible exact ih2 _ _ _ _ _)
   | (with_reducible exact ih3 _ _ _)
   | (with_reducible exact ih4 _ _ _ _)
   | (with_reducible exact rules_May.mono _ _ _ _ _ _)
   | (with_reducible exact w8_awake.mono _)
   | (with_reducible exact w8_long.mono _ _)
   | (with_reducible exact r8_Digit.mono _ _ _)
   | (with_reducible exact r8_Mark.mono _ _ _)
   | (with_reducible exact r8_May.mono _ _ _ _ _ _)
   | (with_reducible exact r8_Same.mono _ _ _)
   | (with_reducible exact r8_Sign.mono _ _ _)
   | (with_reducible exact LeO.refl _)
   | (with_reducible exact LeO.none _)
   | (with_reducible refine LeO.ite ?_ ?_)
   | (with_reducible refine LeO.bind ?_ (fun _ => ?_))
   | exact ih0 _ _ _ _
   | exact ih1 _ _ _
   | exact ih2 _ _ _ _ _
   | exact ih3 _ _ _
   | exact ih4 _ _ _ _
   | exact rules_May.mono _ _ _ _ _ _
   | exact w8_awake.mono _
   | exact w8_long.mono _ _
   | exact r8_Digit.mono _ _ _
   | exact r8_Mark.mono _ _ _
   | exact r8_May.mono _ _ _ _ _ _
   | exact r8_Same.mono _ _ _
   | exact r8_Sign.mono _ _ _
   | exact LeO.none _
   | refine LeO.ite ?_ ?_
   | refine LeO.bind ?_ (fun _ => ?_)
  ·
   intro y0 y1 y2
   unfold w8_RulesPrints.l1
   repeat' first
   | (with_reducible exact ih0 _ _ _ _)
   | (with_reducible exact ih1 _ _ _)
   | (with_reducible exact ih2 _ _ _ _ _)
   | (with_reducible exact ih3 _ _ _)
   | (with_reducible exact ih4 _ _ _ _)
   | (with_reducible exact rules_May.mono _ _ _ _ _ _)
   | (with_reducible exact w8_awake.mono _)
   | (with_reducible exact w8_long.mono _ _)
   | (with_reducible exact r8_Digit.mono _ _ _)
   | (with_reducible exact r8_Mark.mono _ _ _)
   | (with_reducible exact r8_May.mono _ _ _ _ _ _)
   | (with_reducible exact r8_Same.mono _ _ _)
   | (with_reducible exact r8_Sign.mono _ _ _)
   | (with_reducible exact LeO.refl _)
   | (with_reducible exact LeO.none _)
   | (with_reducible refine LeO.ite ?_ ?_)
   | (with_reducible refine LeO.bind ?_ (fun _ => ?_))
   | exact ih0 _ _ _ _
   | exact ih1 _ _ _
   | exact ih2 _ _ _ _ _
   | exact ih3 _ _ _
   | exact ih4 _ _ _ _
   | exact rules_May.mono _ _ _ _ _ _
   | exact w8_awake.mono _
   | exact w8_long.mono _ _
   | exact r8_Digit.mono _ _ _
   | exact r8_Mark.mono _ _ _
   | exact r8_May.mono _ _ _ _ _ _
   | exact r8_Same.mono _ _ _
   | exact r8_Sign.mono _ _ _
   | exact LeO.none _
   | refine LeO.ite ?_ ?_
   | refine LeO.bind ?_ (fun _ => ?_)
  ·
   intro y0 y1 y2 y3
   unfold w8_RulesPrints.j4
   repeat' first
   | (with_reducible exact ih0 _ _ _ _)
   | (with_reducible exact ih1 _ _ _)
   | (with_reducible exact ih2 _ _ _ _ _)
   | (with_reducible exact ih3 _ _ _)
   | (with_reducible exact ih4 _ _ _ _)
   | (with_reducible exact rules_May.mono _ _ _ _ _ _)
   | (with_reducible exact w8_awake.mono _)
   | (with_reducible exact w8_long.mono _ _)
   | (with_reducible exact r8_Digit.mono _ _ _)
   | (with_reducible exact r8_Mark.mono _ _ _)
   | (with_reducible exact r8_May.mono _ _ _ _ _ _)
   | (with_reducible exact r8_Same.mono _ _ _)
   | (with_reducible exact r8_Sign.mono _ _ _)
   | (with_reducible exact LeO.refl _)
   | (with_reducible exact LeO.none _)
   | (with_reducible refine LeO.ite ?_ ?_)
   | (with_reducible refine LeO.bind ?_ (fun _ => ?_))
   | exact ih0 _ _ _ _
   | exact ih1 _ _ _
   | exact ih2 _ _ _ _ _
   | exact ih3 _ _ _
   | exact ih4 _ _ _ _
   | exact rules_May.mono _ _ _ _ _ _
   | exact w8_awake.mono _
   | exact w8_long.mono _ _
   | exact r8_Digit.mono _ _ _
   | exact r8_Mark.mono _ _ _
   | exact r8_May.mono _ _ _ _ _ _
   | exact r8_Same.mono _ _ _
   | exact r8_Sign.mono _ _ _
   | exact LeO.none _
   | refine LeO.ite ?_ ?_
   | refine LeO.bind ?_ (fun _ => ?_)
theorem w8_RulesPrints.mono : ∀ a0 a1 a2 k, LeO (w8_RulesPrints.f k a0 a1 a2) (w8_RulesPrints.f (k + 1) a0 a1 a2) := by
 intro a0 a1 a2 k
 obtain ⟨ih0, ih1, ih2, ih3, ih4⟩ := w8_RulesPrints.mono_l k
 unfold w8_RulesPrints.f
 repeat' first
   | (with_reducible exact ih0 _ _ _ _)
   | (with_reducible exact ih1 _ _ _)
   | (with_reducible exact ih2 _ _ _ _ _)
   | (with_reducible exact ih3 _ _ _)
   | (with_reducible exact ih4 _ _ _ _)
   | (with_reducible exact rules_May.mono _ _ _ _ _ _)
   | (with_reducible exact w8_awake.mono _)
   | (with_reducible exact w8_long.mono _ _)
   | (with_reducible exact r8_Digit.mono _ _ _)
   | (with_reducible exact r8_Mark.mono _ _ _)
   | (with_reducible exact r8_May.mono _ _ _ _ _ _)
   | (with_reducible exact r8_Same.mono _ _ _)
   | (with_reducible exact r8_Sign.mono _ _ _)
   | (with_reducible exact LeO.refl _)
   | (with_reducible exact LeO.none _)
   | (with_reducible refine LeO.ite ?_ ?_)
   | (with_reducible refine LeO.bind ?_ (fun _ => ?_))
   | exact ih0 _ _ _ _
   | exact ih1 _ _ _
   | exact ih2 _ _ _ _ _
   | exact ih3 _ _ _
   | exact ih4 _ _ _ _
   | exact rules_May.mono _ _ _ _ _ _
   | exact w8_awake.mono _
   | exact w8_long.mono _ _
   | exact r8_Digit.mono _ _ _
   | exact r8_Mark.mono _ _ _
   | exact r8_May.mono _ _ _ _ _ _
   | exact r8_Same.mono _ _ _
   | exact r8_Sign.mono _ _ _
   | exact LeO.none _
   | refine LeO.ite ?_ ?_
   | refine LeO.bind ?_ (fun _ => ?_)
def w8_RulesPrints.T12 : Bool × List (List Nat × List Nat) := (true, [([], []), ([0], [0]), ([], []), ([2], [2]), ([1, 3], [1, 3]), ([4], [4]), ([5], [5]), ([5], [5]), ([6, 7, 5], [5, 6, 7]), ([8, 5], [5, 8]), ([5], [5]), ([5], [5]), ([10, 11, 5], [5, 10, 11]), ([12, 5], [5, 12]), ([9, 13, 5], [5, 9, 13]), ([5, 14], [5, 14])])
def w8_RulesPrints.B12 : List Nat := [0, 1, 0, 4, 15, 31, 63, 63, 255, 511, 63, 63, 3135, 7231, 16383, 32767]
theorem w8_RulesPrints.tab12 : rtab .any (opsOf Tryz.f7 12) = w8_RulesPrints.T12 := by kernel_rfl
theorem w8_RulesPrints.bits12 : waitsOk w8_RulesPrints.T12.2 w8_RulesPrints.B12 = true := by kernel_rfl
def w8_RulesPrints.T18 : Bool × List (List Nat × List Nat) := (true, [([], []), ([], []), ([0, 1], [0, 1]), ([2], [2]), ([3], [3]), ([], []), ([], []), ([5, 6], [5, 6]), ([7], [7]), ([8, 4], [8]), ([4, 9], [4, 9])])
def w8_RulesPrints.B18 : List Nat := [0, 0, 3, 7, 15, 0, 0, 96, 224, 511, 1023]
theorem w8_RulesPrints.tab18 : rtab .any (opsOf Tryz.f7 18) = w8_RulesPrints.T18 := by kernel_rfl
theorem w8_RulesPrints.bits18 : waitsOk w8_RulesPrints.T18.2 w8_RulesPrints.B18 = true := by kernel_rfl
set_option maxHeartbeats 8000000 in
set_option maxRecDepth 100000 in
theorem w8_RulesPrints.calls (k : Nat) (A0 : Option Addr) (c0 : Nat) (l0 : List (S47)) (a1 : ByteArray) (a2 : Int) (r : Bool) (w : World) (hr0 : Kd.C k47 w A0 l0.length l0) (hc0 : l0.length ≤ c0) (h : w8_RulesPrints.f k l0 a1 a2 = some r) (hT0 : r = true) :
  Calls Tryz.prog 7 #[.slice A0 l0.length c0, .string a1, .int .u8 a2] w fun e w' => e = .returned (.bool r) ∧ Below w.heap.size w w' := by
 have hu47 := Tryz.underlying47
 have HR0 := aK hr0
 have HC0 := aK hc0
 clear hr0 hc0
 have HB := aK (Below.refl w.heap.size w)
 have H : ((w8_long.f k l0).bind fun t341 => (if t341 = true then (w8_RulesPrints.j0 k l0 a1 a2 true) else (w8_RulesPrints.j0 k l0 a1 a2 (decide ((a1.size : Int) > 50))))) = some r := h
 clear h
 have hT := aK hT0
 clear hT0
 have HC4 := aK H
 clear H
 go_enter Tryz.func7, Tryz.ntmps7
 go_upto_region 1 with (fail)
 go_cut [22] (fun v22 wc => ∃ (kq : Nat) (x22_3 : Bool), v22 = .bool x22_3 ∧ Aside0 (w8_RulesPrints.j0 kq l0 a1 a2 x22_3 = some r) ∧ Aside0 (kq ≤ k) ∧ Aside0 (Below w.heap.size w wc))
 case first =>
  have H := HC4.out
  clear HC4
  replace H := oB H
  obtain ⟨t341, A50, H⟩ := H
  try dsimp only at H
  have A5 := aK A50
  clear A50
  by_cases c6 : t341 = true
  ·
   subst c6
   have H1 : (w8_RulesPrints.j0 k l0 a1 a2 true) = some r := by rw [if_pos rfl] at H; exact H
   clear H
   have H := H1
   clear H1
   have H' := aK H
   clear H
   go_wp2_with (first | ((with_reducible refine gate_callee (f := 17) rfl ?_); refine goesL_ (some 17) rfl rfl Tryz.func17 (by kernel_rfl) rfl #[.slice A0 l0.length c0] rfl (by (try simp only [qM0, qM1, qM2]); first | done | rfl | (simp only [qD0, qD1]; rfl)) ?_; (with_reducible refine (w8_long.calls k _ _ l0 true _ ?side1 ?side2 A5.out).mono ?_); (case side1 => repeat (first | exact (Kd.C_below HR0.out HB.out) | (with_reducible refine Kd.C_alloc ?_ _) | (with_reducible refine Kd.C_drewN ?_ _) | (with_reducible refine Kd.C_drew ?_))); (case side2 => exact HC0.out); rintro e w' ⟨rfl, ⟨nd, rfl⟩⟩; refine ⟨_, rfl, ?_⟩))
   go_meet
   case rel => exact ⟨_, (true), (by first | rfl | (simp; done) | (simp [*]; done)), H', ⟨by first | omega | exact Nat.le_refl _⟩, ⟨by repeat (first | (with_reducible first | exact HB.out | apply bAl | apply pbD | apply bD1) | exact HB.out)⟩⟩
  ·
   replace c6 := Bool.eq_false_iff.mpr c6
   subst c6
   have H1 : (w8_RulesPrints.j0 k l0 a1 a2 (decide ((a1.size : Int) > 50))) = some r := by rw [if_neg (show ¬ (false = true) by decide)] at H; exact H
   clear H
   have H := H1
   clear H1
   have H' := aK H
   clear H
   go_wp2_with (first | ((with_reducible refine gate_callee (f := 17) rfl ?_); refine goesL_ (some 17) rfl rfl Tryz.func17 (by kernel_rfl) rfl #[.slice A0 l0.length c0] rfl (by (try simp only [qM0, qM1, qM2]); first | done | rfl | (simp only [qD0, qD1]; rfl)) ?_; (with_reducible refine (w8_long.calls k _ _ l0 false _ ?side1 ?side2 A5.out).mono ?_); (case side1 => repeat (first | exact (Kd.C_below HR0.out HB.out) | (with_reducible refine Kd.C_alloc ?_ _) | (with_reducible refine Kd.C_drewN ?_ _) | (with_reducible refine Kd.C_drew ?_))); (case side2 => exact HC0.out); rintro e w' ⟨rfl, ⟨nd, rfl⟩⟩; refine ⟨_, rfl, ?_⟩))
   go_meet
   case rel => exact ⟨_, (decide ((a1.size : Int) > 50)), (by first | rfl | (simp; done) | (simp [*]; done)), H', ⟨by first | omega | exact Nat.le_refl _⟩, ⟨by repeat (first | (with_reducible first | exact HB.out | apply bAl | apply pbD | apply bD1) | exact HB.out)⟩⟩
 case rest =>
  clear HC4
  try clear c1
  try clear p2
  try clear c6
  obtain ⟨kq, x22_3, rfl, HA, HJ3, HB⟩ := hcut
  cases kq with
  | zero => exact absurd HA.out (by simp [w8_RulesPrints.j0])
  | succ kj3 =>
   have H := HA.out
   clear HA
   simp only [w8_RulesPrints.j0] at H
   by_cases c7 : x22_3 = true
   ·
    subst c7
    have H1 : ((w8_awake.f kj3).bind fun t342 => (some t342)) = some r := by rw [if_pos rfl] at H; exact H
    clear H
    have H := H1
    clear H1
    replace H := oB H
    obtain ⟨t342, A80, H⟩ := H
    replace H : (some t342) = some r := H
    have A8 := aK A80
    clear A80
    obtain rfl := oI H
    go_wp2_with (first | ((with_reducible refine gate_callee (f := 13) rfl ?_); refine goesL_ (some 23) rfl rfl Tryz.func13 (by kernel_rfl) rfl #[] rfl (by (try simp only [qM0, qM1, qM2]); first | done | rfl | (simp only [qD0, qD1]; rfl)) ?_; (with_reducible refine (w8_awake.calls kj3  t342 _ A8.out).mono ?_); rintro e w9 ⟨rfl, hb⟩; refine ⟨_, rfl, ?_⟩; have n0_ := aK (bSp (by repeat (first | (with_reducible first | exact HB.out | apply bAl | apply pbD | apply bD1) | exact HB.out)) hb); clear HB; have HB := n0_; clear n0_; (try clear hb); (try clear hb2); (try clear hk); (try clear hi)))
    go_ret
    exact ⟨by first | rfl | (simp [eWn, eWs] <;> rfl) | (simp [*, eWn, eWs] <;> rfl), by repeat (first | (with_reducible first | exact HB.out | apply bAl | apply pbD | apply bD1) | exact HB.out)⟩
   ·
    replace c7 := Bool.eq_false_iff.mpr c7
    subst c7
    have H1 : ((some (([] : List (S47)) : List (S47))).bind fun y343 => (if y343.length + l0.length < 2513169434916 then ((some (y343 ++ l0 : List (S47))).bind fun y346 => ((rules_Print.f y346).bind fun bt349 => ((r8_Print.f l0).bind fun bt351 => (if bt349.1.toList = bt351.1.toList then (if bt349.2 = bt351.2 then ((rules_Sign.f y346 a1).bind fun t353 => ((r8_Sign.f kj3 l0 a1).bind fun t354 => (if t353.toList = t354.toList then ((rules_Mark.f y346 a2).bind fun t355 => ((r8_Mark.f kj3 l0 a2).bind fun t356 => (if t355.toList = t356.toList then ((rules_Digit.f y346 a2).bind fun t357 => ((r8_Digit.f kj3 l0 a2).bind fun t358 => (w8_RulesPrints.j1 kj3 l0 y346 (t357.toList != t358.toList)))) else (w8_RulesPrints.j1 kj3 l0 y346 true)))) else (w8_RulesPrints.j1 kj3 l0 y346 true)))) else (w8_RulesPrints.j1 kj3 l0 y346 true)) else (w8_RulesPrints.j1 kj3 l0 y346 true))))) else (none))) = some r := by rw [if_neg (show ¬ (false = true) by decide)] at H; exact H
    clear H
    have H := H1
    clear H1
    obtain ⟨y343, hy343⟩ : ∃ y_ : List (S47), y_ = (([] : List (S47))) := ⟨_, rfl⟩
    replace H : (if y343.length + l0.length < 2513169434916 then ((some (y343 ++ l0 : List (S47))).bind fun y346 => ((rules_Print.f y346).bind fun bt349 => ((r8_Print.f l0).bind fun bt351 => (if bt349.1.toList = bt351.1.toList then (if bt349.2 = bt351.2 then ((rules_Sign.f y346 a1).bind fun t353 => ((r8_Sign.f kj3 l0 a1).bind fun t354 => (if t353.toList = t354.toList then ((rules_Mark.f y346 a2).bind fun t355 => ((r8_Mark.f kj3 l0 a2).bind fun t356 => (if t355.toList = t356.toList then ((rules_Digit.f y346 a2).bind fun t357 => ((r8_Digit.f kj3 l0 a2).bind fun t358 => (w8_RulesPrints.j1 kj3 l0 y346 (t357.toList != t358.toList)))) else (w8_RulesPrints.j1 kj3 l0 y346 true)))) else (w8_RulesPrints.j1 kj3 l0 y346 true)))) else (w8_RulesPrints.j1 kj3 l0 y346 true)) else (w8_RulesPrints.j1 kj3 l0 y346 true))))) else (none)) = some r := by first | (rw [hy343]; with_reducible exact H) | (have H2_ := (Option.bind_some _ _).symm.trans H; rw [hy343]; with_reducible exact H2_) | (have H2_ := (Option.bind_some _ _).symm.trans H; with_reducible exact H2_) | with_reducible exact H | (rw [hy343]; exact H) | exact H
    have Ny343 := aK hy343
    clear hy343
    by_cases c10 : y343.length + l0.length < 2513169434916
    ·
     rw [if_pos c10] at H
     have LMc10 := aK c10
     clear c10
     obtain ⟨y346, hy346⟩ : ∃ y_ : List (S47), y_ = (y343 ++ l0) := ⟨_, rfl⟩
     replace H : ((rules_Print.f y346).bind fun bt349 => ((r8_Print.f l0).bind fun bt351 => (if bt349.1.toList = bt351.1.toList then (if bt349.2 = bt351.2 then ((rules_Sign.f y346 a1).bind fun t353 => ((r8_Sign.f kj3 l0 a1).bind fun t354 => (if t353.toList = t354.toList then ((rules_Mark.f y346 a2).bind fun t355 => ((r8_Mark.f kj3 l0 a2).bind fun t356 => (if t355.toList = t356.toList then ((rules_Digit.f y346 a2).bind fun t357 => ((r8_Digit.f kj3 l0 a2).bind fun t358 => (w8_RulesPrints.j1 kj3 l0 y346 (t357.toList != t358.toList)))) else (w8_RulesPrints.j1 kj3 l0 y346 true)))) else (w8_RulesPrints.j1 kj3 l0 y346 true)))) else (w8_RulesPrints.j1 kj3 l0 y346 true)) else (w8_RulesPrints.j1 kj3 l0 y346 true)))) = some r := by first | (rw [hy346]; with_reducible exact H) | (have H2_ := (Option.bind_some _ _).symm.trans H; rw [hy346]; with_reducible exact H2_) | (have H2_ := (Option.bind_some _ _).symm.trans H; with_reducible exact H2_) | with_reducible exact H | (rw [hy346]; exact H) | exact H
     have Ny346 := aK hy346
     clear hy346
     replace H := oB H
     obtain ⟨⟨t349, t350⟩, A110, H⟩ := H
     try dsimp only at H
     have A11 := aK A110
     clear A110
     replace H := oB H
     obtain ⟨⟨t351, t352⟩, A120, H⟩ := H
     try dsimp only at H
     have A12 := aK A120
     clear A120
     have HC13 := aK H
     clear H
     go_upto_region 6 with (first | ((with_reducible refine gate_dst (N := 24) rfl ?_); (try (refine gate_guard (by rfl) ?_; dsimp only)); refine Kd.R_lit k47 _ 47 ?hg (N := 24) ?hd (xs := ([] : List (S47))) (inner := []) (ok := fun _ => True) (okp := fun _ => True) ?hr ?hp (fun _ hk => hk) trivial (Below.refl _ _) (Nat.le_refl _) (by simp) ?_; (case hd => rfl); (case hg => rfl); (case hr => first | (go_simp; done) | (go_simp; rfl)); (case hp => exact (Reps.none _ _)); intro v344 w14 ho15 hb hg_ hnew_; clear hg_ hnew_; (first | rw [← Ny343.out] at ho15 | (simp only [Int.reduceToNat] at ho15; rw [← Ny343.out] at ho15)); have n0_ := aK (Kd.R_lower ho15 (bSz (by repeat (first | (with_reducible first | exact HB.out | apply bAl | apply pbD | apply bD1) | exact HB.out)))); have n1_ := aK (bSp (by repeat (first | (with_reducible first | exact HB.out | apply bAl | apply pbD | apply bD1) | exact HB.out)) hb); clear HB; have HO345 := n0_; have HB := n1_; clear n0_ n1_; clear hb ho15) | ((with_reducible refine gate_builtin (b := .append) (xs := #[.tmp 24, .tmp 25]) rfl ?_); (try (refine gate_guard (by rfl) ?_; dsimp only)); at_builtin; refine Kd.R_append_rows k47 (w0 := w) w.heap.size rfl (.tmp 24) (.tmp 25) 36 47 (.agg #[(.int .i64 0), (.string ⟨#[]⟩), (.string ⟨#[]⟩), (.int .i64 0), (.int .i64 0)]) 56 rfl Tryz.underlying36 info47 rfl (by decide) (by omega) v344 y343 l0 _ _ _ (fun _ => True) (fun _ => False) rfl rfl ?aO ?aR (fun _ _ h => h) (fun _ h => h.elim) ?aF ?aB ?aS ?aL ?_; (case aR => repeat (first | exact (Kd.C_below HR0.out HB.out) | (with_reducible refine Kd.C_alloc ?_ _) | (with_reducible refine Kd.C_drewN ?_ _) | (with_reducible refine Kd.C_drew ?_))); (case aB => exact (by repeat (first | (with_reducible first | exact HB.out | apply bAl | apply pbD | apply bD1) | exact HB.out))); (case aF => exact (fun _ _ => trivial)); (case aO => exact (by (with_reducible repeat (first | apply Kd.R_alloc | apply Kd.R_drewN | apply Kd.R_drew)); exact HO345.out)); (case aS => exact (bSz (by repeat (first | (with_reducible first | exact HB.out | apply bAl | apply pbD | apply bD1) | exact HB.out)))); (case aL => have := LMc10.out; omega); intro v347 w16 ho hb hg hat; rw [← Ny346.out] at ho; have n0_ := aK (hb); have n1_ := aK (ho); clear HB; clear HO345; have HB := n0_; have HO348 := n1_; clear n0_ n1_; clear ho hb hg hat; obtain ⟨Ao17, co17, eo17⟩ := Kd.R_slice HO348.out; subst eo17) | ((with_reducible refine gate_callee (f := 18) rfl ?_); refine goesL_ (some 29) rfl rfl Tryz.func18 (by kernel_rfl) rfl #[.slice Ao17 y346.length co17] rfl (by (try simp only [qM0, qM1, qM2]); first | done | rfl | (simp only [qD0, qD1]; rfl)) ?_; (with_reducible refine (rules_Print.calls _ _ y346 t349 t350 _ ?side1 ?side2 A11.out).mono ?_); (case side1 => repeat (first | exact (Kd.R_reads' HO348.out).2.2 | (with_reducible refine Kd.C_alloc ?_ _) | (with_reducible refine Kd.C_drewN ?_ _) | (with_reducible refine Kd.C_drew ?_))); (case side2 => exact (Kd.R_reads' HO348.out).2.1); rintro e w18 ⟨rfl, hb⟩; refine ⟨_, rfl, ?_⟩; have n0_ := aK (Kd.R_below (by (with_reducible repeat (first | apply Kd.R_alloc | apply Kd.R_drewN | apply Kd.R_drew)); exact HO348.out) hb); have n1_ := aK (bSp (by repeat (first | (with_reducible first | exact HB.out | apply bAl | apply pbD | apply bD1) | exact HB.out)) hb); clear HO348; clear HB; have HO348 := n0_; have HB := n1_; clear n0_ n1_; (try clear hb); (try clear hb2); (try clear hk); (try clear hi)) | ((with_reducible refine gate_callee (f := 21) rfl ?_); refine goesL_ (some 34) rfl rfl Tryz.func21 (by kernel_rfl) rfl #[.slice A0 l0.length c0] rfl (by (try simp only [qM0, qM1, qM2]); first | done | rfl | (simp only [qD0, qD1]; rfl)) ?_; (with_reducible refine (r8_Print.calls _ _ l0 t351 t352 _ ?side1 ?side2 A12.out).mono ?_); (case side1 => repeat (first | exact (Kd.C_below HR0.out HB.out) | (with_reducible refine Kd.C_alloc ?_ _) | (with_reducible refine Kd.C_drewN ?_ _) | (with_reducible refine Kd.C_drew ?_))); (case side2 => exact HC0.out); rintro e w19 ⟨rfl, hb⟩; refine ⟨_, rfl, ?_⟩; have n0_ := aK (Kd.R_below (by (with_reducible repeat (first | apply Kd.R_alloc | apply Kd.R_drewN | apply Kd.R_drew)); exact HO348.out) hb); have n1_ := aK (bSp (by repeat (first | (with_reducible first | exact HB.out | apply bAl | apply pbD | apply bD1) | exact HB.out)) hb); clear HO348; clear HB; have HO348 := n0_; have HB := n1_; clear n0_ n1_; (try clear hb); (try clear hb2); (try clear hk); (try clear hi)))
     (try simp only [Act.put, qSa, qS0, qS1])
     go_cut [71] (fun v71 wc => ∃ (kq : Nat) (x71_12 : Bool), v71 = .bool x71_12 ∧ Aside0 (w8_RulesPrints.j1 kq l0 y346 x71_12 = some r) ∧ Aside0 (kq ≤ kj3) ∧ Aside0 (Kd.R k47 47 wc w.heap.size (fun _ => True) (.slice Ao17 y346.length co17) y346) ∧ Aside0 (Below w.heap.size w wc))
     case first =>
      have H := HC13.out
      clear HC13
      by_cases c20 : t349.toList = t351.toList
      ·
       rw [if_pos c20] at H
       have c20b0 : (t349.toList == t351.toList) = true := beq_iff_eq.mpr c20
       have c20b1 : (t349.toList != t351.toList) = false := bne_eq_false_iff_eq.mpr c20
       clear c20
       (first | rw [c20b0] | (simp only [i64_w, i32_w]; rw [c20b0]) | skip)
       by_cases c21 : t350 = t352
       ·
        rw [if_pos c21] at H
        have c21b0 : (t350 == t352) = true := beq_iff_eq.mpr c21
        have c21b1 : (t350 != t352) = false := bne_eq_false_iff_eq.mpr c21
        clear c21
        replace H := oB H
        obtain ⟨t353, A220, H⟩ := H
        try dsimp only at H
        have A22 := aK A220
        clear A220
        replace H := oB H
        obtain ⟨t354, A230, H⟩ := H
        try dsimp only at H
        have A23 := aK A230
        clear A230
        by_cases c24 : t353.toList = t354.toList
        ·
         rw [if_pos c24] at H
         have c24b0 : (t353.toList == t354.toList) = true := beq_iff_eq.mpr c24
         have c24b1 : (t353.toList != t354.toList) = false := bne_eq_false_iff_eq.mpr c24
         clear c24
         replace H := oB H
         obtain ⟨t355, A250, H⟩ := H
         try dsimp only at H
         have A25 := aK A250
         clear A250
         replace H := oB H
         obtain ⟨t356, A260, H⟩ := H
         try dsimp only at H
         have A26 := aK A260
         clear A260
         by_cases c27 : t355.toList = t356.toList
         ·
          rw [if_pos c27] at H
          have c27b0 : (t355.toList == t356.toList) = true := beq_iff_eq.mpr c27
          have c27b1 : (t355.toList != t356.toList) = false := bne_eq_false_iff_eq.mpr c27
          clear c27
          replace H := oB H
          obtain ⟨t357, A280, H⟩ := H
          try dsimp only at H
          have A28 := aK A280
          clear A280
          replace H := oB H
          obtain ⟨t358, A290, H⟩ := H
          try dsimp only at H
          have A29 := aK A290
          clear A290
          have H' := aK H
          clear H
          go_wp2_with (first | (go_at_call 22; (with_reducible refine (rules_Sign.calls _ _ y346 a1 t353 _ ?side1 ?side2 A22.out).mono ?_); (case side1 => repeat (first | exact (Kd.R_reads' HO348.out).2.2 | (with_reducible refine Kd.C_alloc ?_ _) | (with_reducible refine Kd.C_drewN ?_ _) | (with_reducible refine Kd.C_drew ?_))); (case side2 => exact (Kd.R_reads' HO348.out).2.1); rintro e w30 ⟨rfl, hb⟩; have n0_ := aK (Kd.R_below (by (with_reducible repeat (first | apply Kd.R_alloc | apply Kd.R_drewN | apply Kd.R_drew)); exact HO348.out) hb); have n1_ := aK (bSp (by repeat (first | (with_reducible first | exact HB.out | apply bAl | apply pbD | apply bD1) | exact HB.out)) hb); clear HO348; clear HB; have HO348 := n0_; have HB := n1_; clear n0_ n1_; (try clear hb); (try clear hb2); (try clear hk); (try clear hi)) | (go_at_call 23; (with_reducible refine (r8_Sign.calls kj3 _ _ l0 a1 t354 _ ?side1 ?side2 A23.out).mono ?_); (case side1 => repeat (first | exact (Kd.C_below HR0.out HB.out) | (with_reducible refine Kd.C_alloc ?_ _) | (with_reducible refine Kd.C_drewN ?_ _) | (with_reducible refine Kd.C_drew ?_))); (case side2 => exact HC0.out); rintro e w' ⟨rfl, ⟨nd, rfl⟩⟩) | (go_at_call 24; (with_reducible refine (rules_Mark.calls _ _ y346 a2 t355 _ ?side1 ?side2 A25.out).mono ?_); (case side1 => repeat (first | exact (Kd.R_reads' HO348.out).2.2 | (with_reducible refine Kd.C_alloc ?_ _) | (with_reducible refine Kd.C_drewN ?_ _) | (with_reducible refine Kd.C_drew ?_))); (case side2 => exact (Kd.R_reads' HO348.out).2.1); rintro e w31 ⟨rfl, hb⟩; have n0_ := aK (Kd.R_below (by (with_reducible repeat (first | apply Kd.R_alloc | apply Kd.R_drewN | apply Kd.R_drew)); exact HO348.out) hb); have n1_ := aK (bSp (by repeat (first | (with_reducible first | exact HB.out | apply bAl | apply pbD | apply bD1) | exact HB.out)) hb); clear HO348; clear HB; have HO348 := n0_; have HB := n1_; clear n0_ n1_; (try clear hb); (try clear hb2); (try clear hk); (try clear hi)) | (go_at_call 25; (with_reducible refine (r8_Mark.calls kj3 _ _ l0 a2 t356 _ ?side1 ?side2 A26.out).mono ?_); (case side1 => repeat (first | exact (Kd.C_below HR0.out HB.out) | (with_reducible refine Kd.C_alloc ?_ _) | (with_reducible refine Kd.C_drewN ?_ _) | (with_reducible refine Kd.C_drew ?_))); (case side2 => exact HC0.out); rintro e w32 ⟨rfl, hb⟩; have n0_ := aK (Kd.R_below (by (with_reducible repeat (first | apply Kd.R_alloc | apply Kd.R_drewN | apply Kd.R_drew)); exact HO348.out) hb); have n1_ := aK (bSp (by repeat (first | (with_reducible first | exact HB.out | apply bAl | apply pbD | apply bD1) | exact HB.out)) hb); clear HO348; clear HB; have HO348 := n0_; have HB := n1_; clear n0_ n1_; (try clear hb); (try clear hb2); (try clear hk); (try clear hi)) | (go_at_call 26; (with_reducible refine (rules_Digit.calls _ _ y346 a2 t357 _ ?side1 ?side2 A28.out).mono ?_); (case side1 => repeat (first | exact (Kd.R_reads' HO348.out).2.2 | (with_reducible refine Kd.C_alloc ?_ _) | (with_reducible refine Kd.C_drewN ?_ _) | (with_reducible refine Kd.C_drew ?_))); (case side2 => exact (Kd.R_reads' HO348.out).2.1); rintro e w33 ⟨rfl, hb⟩; have n0_ := aK (Kd.R_below (by (with_reducible repeat (first | apply Kd.R_alloc | apply Kd.R_drewN | apply Kd.R_drew)); exact HO348.out) hb); have n1_ := aK (bSp (by repeat (first | (with_reducible first | exact HB.out | apply bAl | apply pbD | apply bD1) | exact HB.out)) hb); clear HO348; clear HB; have HO348 := n0_; have HB := n1_; clear n0_ n1_; (try clear hb); (try clear hb2); (try clear hk); (try clear hi)) | (go_at_call 27; (with_reducible refine (r8_Digit.calls kj3 _ _ l0 a2 t358 _ ?side1 ?side2 A29.out).mono ?_); (case side1 => repeat (first | exact (Kd.C_below HR0.out HB.out) | (with_reducible refine Kd.C_alloc ?_ _) | (with_reducible refine Kd.C_drewN ?_ _) | (with_reducible refine Kd.C_drew ?_))); (case side2 => exact HC0.out); rintro e w34 ⟨rfl, hb⟩; have n0_ := aK (Kd.R_below (by (with_reducible repeat (first | apply Kd.R_alloc | apply Kd.R_drewN | apply Kd.R_drew)); exact HO348.out) hb); have n1_ := aK (bSp (by repeat (first | (with_reducible first | exact HB.out | apply bAl | apply pbD | apply bD1) | exact HB.out)) hb); clear HO348; clear HB; have HO348 := n0_; have HB := n1_; clear n0_ n1_; (try clear hb); (try clear hb2); (try clear hk); (try clear hi)))
          go_meet
          case rel => exact ⟨_, ((t357.toList != t358.toList)), (by first | rfl | (simp; done) | (simp [*]; done)), H', ⟨by have := HJ3.out; first | omega | exact Nat.le_refl _⟩, ⟨by (with_reducible repeat (first | apply Kd.R_alloc | apply Kd.R_drewN | apply Kd.R_drew)); exact HO348.out⟩, ⟨by repeat (first | (with_reducible first | exact HB.out | apply bAl | apply pbD | apply bD1) | exact HB.out)⟩⟩
         ·
          rw [if_neg c27] at H
          have c27b0 : (t355.toList == t356.toList) = false := beq_eq_false_iff_ne.mpr c27
          have c27b1 : (t355.toList != t356.toList) = true := bne_iff_ne.mpr c27
          have H' := aK H
          clear H
          go_wp2_with (first | (go_at_call 22; (with_reducible refine (rules_Sign.calls _ _ y346 a1 t353 _ ?side1 ?side2 A22.out).mono ?_); (case side1 => repeat (first | exact (Kd.R_reads' HO348.out).2.2 | (with_reducible refine Kd.C_alloc ?_ _) | (with_reducible refine Kd.C_drewN ?_ _) | (with_reducible refine Kd.C_drew ?_))); (case side2 => exact (Kd.R_reads' HO348.out).2.1); rintro e w35 ⟨rfl, hb⟩; have n0_ := aK (Kd.R_below (by (with_reducible repeat (first | apply Kd.R_alloc | apply Kd.R_drewN | apply Kd.R_drew)); exact HO348.out) hb); have n1_ := aK (bSp (by repeat (first | (with_reducible first | exact HB.out | apply bAl | apply pbD | apply bD1) | exact HB.out)) hb); clear HO348; clear HB; have HO348 := n0_; have HB := n1_; clear n0_ n1_; (try clear hb); (try clear hb2); (try clear hk); (try clear hi)) | (go_at_call 23; (with_reducible refine (r8_Sign.calls kj3 _ _ l0 a1 t354 _ ?side1 ?side2 A23.out).mono ?_); (case side1 => repeat (first | exact (Kd.C_below HR0.out HB.out) | (with_reducible refine Kd.C_alloc ?_ _) | (with_reducible refine Kd.C_drewN ?_ _) | (with_reducible refine Kd.C_drew ?_))); (case side2 => exact HC0.out); rintro e w' ⟨rfl, ⟨nd, rfl⟩⟩) | (go_at_call 24; (with_reducible refine (rules_Mark.calls _ _ y346 a2 t355 _ ?side1 ?side2 A25.out).mono ?_); (case side1 => repeat (first | exact (Kd.R_reads' HO348.out).2.2 | (with_reducible refine Kd.C_alloc ?_ _) | (with_reducible refine Kd.C_drewN ?_ _) | (with_reducible refine Kd.C_drew ?_))); (case side2 => exact (Kd.R_reads' HO348.out).2.1); rintro e w36 ⟨rfl, hb⟩; have n0_ := aK (Kd.R_below (by (with_reducible repeat (first | apply Kd.R_alloc | apply Kd.R_drewN | apply Kd.R_drew)); exact HO348.out) hb); have n1_ := aK (bSp (by repeat (first | (with_reducible first | exact HB.out | apply bAl | apply pbD | apply bD1) | exact HB.out)) hb); clear HO348; clear HB; have HO348 := n0_; have HB := n1_; clear n0_ n1_; (try clear hb); (try clear hb2); (try clear hk); (try clear hi)) | (go_at_call 25; (with_reducible refine (r8_Mark.calls kj3 _ _ l0 a2 t356 _ ?side1 ?side2 A26.out).mono ?_); (case side1 => repeat (first | exact (Kd.C_below HR0.out HB.out) | (with_reducible refine Kd.C_alloc ?_ _) | (with_reducible refine Kd.C_drewN ?_ _) | (with_reducible refine Kd.C_drew ?_))); (case side2 => exact HC0.out); rintro e w37 ⟨rfl, hb⟩; have n0_ := aK (Kd.R_below (by (with_reducible repeat (first | apply Kd.R_alloc | apply Kd.R_drewN | apply Kd.R_drew)); exact HO348.out) hb); have n1_ := aK (bSp (by repeat (first | (with_reducible first | exact HB.out | apply bAl | apply pbD | apply bD1) | exact HB.out)) hb); clear HO348; clear HB; have HO348 := n0_; have HB := n1_; clear n0_ n1_; (try clear hb); (try clear hb2); (try clear hk); (try clear hi)))
          go_meet
          case rel => exact ⟨_, (true), (by first | rfl | (simp; done) | (simp [*]; done)), H', ⟨by have := HJ3.out; first | omega | exact Nat.le_refl _⟩, ⟨by (with_reducible repeat (first | apply Kd.R_alloc | apply Kd.R_drewN | apply Kd.R_drew)); exact HO348.out⟩, ⟨by repeat (first | (with_reducible first | exact HB.out | apply bAl | apply pbD | apply bD1) | exact HB.out)⟩⟩
        ·
         rw [if_neg c24] at H
         have c24b0 : (t353.toList == t354.toList) = false := beq_eq_false_iff_ne.mpr c24
         have c24b1 : (t353.toList != t354.toList) = true := bne_iff_ne.mpr c24
         have H' := aK H
         clear H
         go_wp2_with (first | (go_at_call 22; (with_reducible refine (rules_Sign.calls _ _ y346 a1 t353 _ ?side1 ?side2 A22.out).mono ?_); (case side1 => repeat (first | exact (Kd.R_reads' HO348.out).2.2 | (with_reducible refine Kd.C_alloc ?_ _) | (with_reducible refine Kd.C_drewN ?_ _) | (with_reducible refine Kd.C_drew ?_))); (case side2 => exact (Kd.R_reads' HO348.out).2.1); rintro e w38 ⟨rfl, hb⟩; have n0_ := aK (Kd.R_below (by (with_reducible repeat (first | apply Kd.R_alloc | apply Kd.R_drewN | apply Kd.R_drew)); exact HO348.out) hb); have n1_ := aK (bSp (by repeat (first | (with_reducible first | exact HB.out | apply bAl | apply pbD | apply bD1) | exact HB.out)) hb); clear HO348; clear HB; have HO348 := n0_; have HB := n1_; clear n0_ n1_; (try clear hb); (try clear hb2); (try clear hk); (try clear hi)) | (go_at_call 23; (with_reducible refine (r8_Sign.calls kj3 _ _ l0 a1 t354 _ ?side1 ?side2 A23.out).mono ?_); (case side1 => repeat (first | exact (Kd.C_below HR0.out HB.out) | (with_reducible refine Kd.C_alloc ?_ _) | (with_reducible refine Kd.C_drewN ?_ _) | (with_reducible refine Kd.C_drew ?_))); (case side2 => exact HC0.out); rintro e w' ⟨rfl, ⟨nd, rfl⟩⟩))
         go_meet
         case rel => exact ⟨_, (true), (by first | rfl | (simp; done) | (simp [*]; done)), H', ⟨by have := HJ3.out; first | omega | exact Nat.le_refl _⟩, ⟨by (with_reducible repeat (first | apply Kd.R_alloc | apply Kd.R_drewN | apply Kd.R_drew)); exact HO348.out⟩, ⟨by repeat (first | (with_reducible first | exact HB.out | apply bAl | apply pbD | apply bD1) | exact HB.out)⟩⟩
       ·
        rw [if_neg c21] at H
        have c21b0 : (t350 == t352) = false := beq_eq_false_iff_ne.mpr c21
        have c21b1 : (t350 != t352) = true := bne_iff_ne.mpr c21
        have H' := aK H
        clear H
        go_wp2
        go_meet
        case rel => exact ⟨_, (true), (by first | rfl | (simp; done) | (simp [*]; done)), H', ⟨by have := HJ3.out; first | omega | exact Nat.le_refl _⟩, ⟨by (with_reducible repeat (first | apply Kd.R_alloc | apply Kd.R_drewN | apply Kd.R_drew)); exact HO348.out⟩, ⟨by repeat (first | (with_reducible first | exact HB.out | apply bAl | apply pbD | apply bD1) | exact HB.out)⟩⟩
      ·
       rw [if_neg c20] at H
       have c20b0 : (t349.toList == t351.toList) = false := beq_eq_false_iff_ne.mpr c20
       have c20b1 : (t349.toList != t351.toList) = true := bne_iff_ne.mpr c20
       (first | rw [c20b0] | (simp only [i64_w, i32_w]; rw [c20b0]) | skip)
       have H' := aK H
       clear H
       go_wp2
       go_meet
       case rel => exact ⟨_, (true), (by first | rfl | (simp; done) | (simp [*]; done)), H', ⟨by have := HJ3.out; first | omega | exact Nat.le_refl _⟩, ⟨by (with_reducible repeat (first | apply Kd.R_alloc | apply Kd.R_drewN | apply Kd.R_drew)); exact HO348.out⟩, ⟨by repeat (first | (with_reducible first | exact HB.out | apply bAl | apply pbD | apply bD1) | exact HB.out)⟩⟩
     case rest =>
      clear HC13
      try clear c1
      try clear c2
      try clear p2
      try clear c6
      try clear c7
      try clear c10
      try clear c13
      try clear c17
      try clear c18
      try clear c20
      try clear c20b0
      try clear c20b1
      try clear c21
      try clear c21b0
      try clear c21b1
      try clear c24
      try clear c24b0
      try clear c24b1
      try clear c27
      try clear c27b0
      try clear c27b1
      try clear p2
      obtain ⟨kq, x71_12, rfl, HA, HJ12, HO_7, HB⟩ := hcut
      cases kq with
      | zero => exact absurd HA.out (by simp [w8_RulesPrints.j1])
      | succ kj12 =>
       have H := HA.out
       clear HA
       simp only [w8_RulesPrints.j1] at H
       by_cases c39 : x71_12 = true
       ·
        subst c39
        have H1 : (some false) = some r := by rw [if_pos rfl] at H; exact H
        clear H
        have H := H1
        clear H1
        exact absurd ((oI H).trans hT.out) (by decide)
       ·
        replace c39 := Bool.eq_false_iff.mpr c39
        subst c39
        have H1 : ((rules_Names.f).bind fun t359 => ((r8_Names.f).bind fun t362 => (w8_RulesPrints.l0 kj12 l0 y346 t359 t362 0))) = some r := by rw [if_neg (show ¬ (false = true) by decide)] at H; exact H
        clear H
        have H := H1
        clear H1
        replace H := oB H
        obtain ⟨t359, A400, H⟩ := H
        try dsimp only at H
        have A40 := aK A400
        clear A400
        replace H := oB H
        obtain ⟨t362, A410, H⟩ := H
        try dsimp only at H
        have A41 := aK A410
        clear A410
        have H' := aK H
        clear H
        go_wp2_with (first | ((with_reducible refine gate_callee (f := 28) rfl ?_); refine goesL_ (some 72) rfl rfl Tryz.func28 (by kernel_rfl) rfl #[] rfl (by (try simp only [qM0, qM1, qM2]); first | done | rfl | (simp only [qD0, qD1]; rfl)) ?_; (with_reducible refine (rules_Names.calls  t359 _ A40.out).mono ?_); rintro e w42 ⟨v360, rfl, ho0, hb⟩; refine ⟨_, rfl, ?_⟩; have n0_ := aK (Kd.R_below (by (with_reducible repeat (first | apply Kd.R_alloc | apply Kd.R_drewN | apply Kd.R_drew)); exact HO_7.out) hb); have n1_ := aK (Kd.R_lower ho0 (bSz (by repeat (first | (with_reducible first | exact HB.out | apply bAl | apply pbD | apply bD1) | exact HB.out)))); have n2_ := aK (bSp (by repeat (first | (with_reducible first | exact HB.out | apply bAl | apply pbD | apply bD1) | exact HB.out)) hb); clear HO_7; clear HB; have HO_7 := n0_; have HO361 := n1_; have HB := n2_; clear n0_ n1_ n2_; (try clear hb); (try clear hb2); (try clear hk); (try clear hi); (try clear ho0)) | ((with_reducible refine gate_callee (f := 29) rfl ?_); refine goesL_ (some 73) rfl rfl Tryz.func29 (by kernel_rfl) rfl #[] rfl (by (try simp only [qM0, qM1, qM2]); first | done | rfl | (simp only [qD0, qD1]; rfl)) ?_; (with_reducible refine (r8_Names.calls  t362 _ A41.out).mono ?_); rintro e w43 ⟨v363, rfl, ho0, hb⟩; refine ⟨_, rfl, ?_⟩; have n0_ := aK (Kd.R_below (by (with_reducible repeat (first | apply Kd.R_alloc | apply Kd.R_drewN | apply Kd.R_drew)); exact HO_7.out) hb); have n1_ := aK (Kd.R_elder' (by (with_reducible repeat (first | apply Kd.R_alloc | apply Kd.R_drewN | apply Kd.R_drew)); exact HO361.out) (Kd.R_base ho0) hb); have n2_ := aK (Kd.R_lower (Kd.R_new' ho0 (Kd.R_lt (by (with_reducible repeat (first | apply Kd.R_alloc | apply Kd.R_drewN | apply Kd.R_drew)); exact HO361.out))) (bSz (by repeat (first | (with_reducible first | exact HB.out | apply bAl | apply pbD | apply bD1) | exact HB.out)))); have n3_ := aK (bSp (by repeat (first | (with_reducible first | exact HB.out | apply bAl | apply pbD | apply bD1) | exact HB.out)) hb); clear HO_7; clear HO361; clear HB; have HO_7 := n0_; have HO361 := n1_; have HO364 := n2_; have HB := n3_; clear n0_ n1_ n2_ n3_; (try clear hb); (try clear hb2); (try clear hk); (try clear hi); (try clear ho0)))
        go_loopg [14] kj12 (fun kq v14 w' => ∃ (x14_3 : Int), v14 = .int .i64 x14_3 ∧ Aside0 (w8_RulesPrints.l0 kq l0 y346 t359 t362 x14_3 = some r) ∧ Aside0 (kq ≤ kj12) ∧ Aside0 (Kd.R k47 47 w' w.heap.size (fun _ => True) (.slice Ao17 y346.length co17) y346) ∧ Aside0 (Kd.R Kd.string 9 w' w.heap.size (fun k_ => some k_ ≠ (v363 : Value).ownBlock) v360 t359) ∧ Aside0 (Kd.R Kd.string 9 w' w.heap.size (fun k_ => some k_ ≠ (v360 : Value).ownBlock) v363 t362) ∧ Aside0 (Below w.heap.size w w'))
        case atStart => exact ⟨(0), (by first | rfl | (simp; done) | (simp [*]; done)), H', ⟨Nat.le_refl _⟩, ⟨by (with_reducible repeat (first | apply Kd.R_alloc | apply Kd.R_drewN | apply Kd.R_drew)); exact HO_7.out⟩, ⟨by (with_reducible repeat (first | apply Kd.R_alloc | apply Kd.R_drewN | apply Kd.R_drew)); exact Kd.R_mono HO361.out (fun _ hk => hk.2)⟩, ⟨by (with_reducible repeat (first | apply Kd.R_alloc | apply Kd.R_drewN | apply Kd.R_drew)); exact Kd.R_mono HO364.out (fun _ hk => hk.2)⟩, ⟨by repeat (first | (with_reducible first | exact HB.out | apply bAl | apply pbD | apply bD1) | exact HB.out)⟩⟩
        case round =>
         clear H'
         try clear c1
         try clear c2
         try clear p2
         try clear c3
         try clear c6
         try clear c7
         try clear c10
         try clear c13
         try clear c17
         try clear c18
         try clear c20
         try clear c20b0
         try clear c20b1
         try clear c21
         try clear c21b0
         try clear c21b1
         try clear c24
         try clear c24b0
         try clear c24b1
         try clear c27
         try clear c27b0
         try clear c27b1
         try clear c28
         try clear c29
         try clear c39
         try clear p2
         obtain ⟨x14_3, rfl, HA, HK3, HO_7, HO_12, HO_13, HB⟩ := hrel
         cases gk with
         | zero => exact absurd HA.out (by simp [w8_RulesPrints.l0])
         | succ k3 =>
          have H := HA.out
          clear HA
          simp only [w8_RulesPrints.l0] at H
          by_cases c44 : x14_3 < (t362.length : Int)
          ·
           rw [if_pos c44] at H
           have c44b0 : decide (x14_3 < (t362.length : Int)) = true := decide_eq_true c44
           clear c44
           by_cases c45 : (t359.length : Int) = (t362.length : Int)
           ·
            rw [if_pos c45] at H
            have c45b0 : ((t359.length : Int) == (t362.length : Int)) = true := beq_iff_eq.mpr c45
            have c45b1 : ((t359.length : Int) != (t362.length : Int)) = false := bne_eq_false_iff_eq.mpr c45
            have c45b2 : (t359.length == t362.length) = true := by first | simpa using c45 | (simp at c45 ⊢; omega)
            clear c45
            by_cases c46 : 0 ≤ x14_3
            ·
             rw [if_pos c46] at H
             have c46b0 : decide (0 ≤ x14_3) = true := decide_eq_true c46
             clear c46
             by_cases c47 : x14_3 < (t359.length : Int)
             ·
              rw [if_pos c47] at H
              have c47b0 : decide (x14_3 < (t359.length : Int)) = true := decide_eq_true c47
              clear c47
              by_cases c48 : (rdOf ByteArray.empty t359 x14_3).toList = (rdOf ByteArray.empty t362 x14_3).toList
              ·
               rw [if_pos c48] at H
               have c48b0 : ((rdOf ByteArray.empty t359 x14_3).toList == (rdOf ByteArray.empty t362 x14_3).toList) = true := beq_iff_eq.mpr c48
               have c48b1 : ((rdOf ByteArray.empty t359 x14_3).toList != (rdOf ByteArray.empty t362 x14_3).toList) = false := bne_eq_false_iff_eq.mpr c48
               clear c48
               have H' := aK H
               clear H
               obtain ⟨Ao49, co49, eo49⟩ := Kd.R_slice HO_13.out
               subst eo49
               try go_wp2
               have n0_ := aK (Kd.R_drew HO_7.out)
               have n1_ := aK (Kd.R_drew HO_12.out)
               have n2_ := aK (Kd.R_drew HO_13.out)
               have n3_ := aK (bD1 HB.out)
               clear HO_7
               clear HO_12
               clear HO_13
               clear HB
               have HO_7 := n0_
               have HO_12 := n1_
               have HO_13 := n2_
               have HB := n3_
               clear n0_ n1_ n2_ n3_
               obtain ⟨Ao51, co51, eo51⟩ := Kd.R_slice HO_12.out
               (first | subst eo51 | (injection eo51 with f1_ f2_ f3_; have f4_ := f1_.symm; have f5_ := f3_.symm; clear f1_ f2_ f3_; subst f4_; subst f5_))
               have p365 : 0 ≤ (x14_3 : Int) := odT (by first | (with_reducible assumption) | assumption)
               have q365 : x14_3 < (t359.length : Int) := odT (by first | (with_reducible assumption) | assumption)
               obtain ⟨ad365, e365, hx365_0⟩ := Kd.at_string (Kd.R_reads' HO_12.out).2.2 x14_3 p365 q365
               cases e365
               replace p365 := eq_true p365
               replace q365 := eq_true q365
               have p366 : 0 ≤ (x14_3 : Int) := odT (by first | (with_reducible assumption) | assumption)
               have q366 : x14_3 < (t362.length : Int) := odT (by first | (with_reducible assumption) | assumption)
               obtain ⟨ad366, e366, hx366_0⟩ := Kd.at_string (Kd.R_reads' HO_13.out).2.2 x14_3 p366 q366
               cases e366
               replace p366 := eq_true p366
               replace q366 := eq_true q366
               refine start_ (n := 16) (S := fun w' => w'.cell? (ad365.add (x14_3).toNat) = some (.string (rdOf ByteArray.empty t359 x14_3)) ∧ w'.cell? (ad366.add (x14_3).toNat) = some (.string (rdOf ByteArray.empty t362 x14_3))) (ds := []) #[false, false, false, false, false, false, false, false, false, false, false, false, false, false, false, false] (by kernel_rfl) rfl rfl ⟨hx365_0, hx366_0⟩ (fun hHeld => ?_); refine with_tabW w8_RulesPrints.tab12 w8_RulesPrints.bits12 (fun HT_ HW_ => ?_)
               generalize wr.drew = w50 at HO_7 HO_12 HO_13 HB hx365_0 hx366_0 hHeld ⊢
               refine pure_ (i := 0) (N := some 80) (v := ?_) (a' := ?_) #[true, false, false, false, false, false, false, false, false, false, false, false, false, false, false, false] rfl rfl (any_of HT_.out (by kernel_rfl)) (fun _ _ _ h => h) (Or.inl ⟨by rfl, ?_⟩) ?_ ?_
               rotate_left
               ·
                intro w'
                go_simp
                with_reducible rfl
               rotate_left
               ·
                simp only [Act.put, qSa, qS0, qS1, i64_w, i32_w]
                rfl
               refine pure_ (i := 1) (N := some 81) (v := ?_) (a' := ?_) #[true, true, false, false, false, false, false, false, false, false, false, false, false, false, false, false] rfl rfl (any_of HT_.out (by kernel_rfl)) (fun _ _ _ h => h) (Or.inl ⟨by rfl, ?_⟩) ?_ ?_
               rotate_left
               ·
                intro w'
                go_simp
                with_reducible rfl
               rotate_left
               ·
                simp only [Act.put, qSa, qS0, qS1, i64_w, i32_w]
                rfl
               refine pure_ (i := 2) (N := some 82) (v := ?_) (a' := ?_) #[true, true, true, false, false, false, false, false, false, false, false, false, false, false, false, false] rfl rfl (any_of HT_.out (by kernel_rfl)) (fun _ _ _ h => h) (Or.inl ⟨by rfl, ?_⟩) ?_ ?_
               rotate_left
               ·
                intro w'
                go_simp
                with_reducible rfl
               rotate_left
               ·
                simp only [Act.put, qSa, qS0, qS1, i64_w, i32_w]
                rfl
               refine pure_ (i := 3) (N := some 83) (v := ?_) (a' := ?_) #[true, true, true, true, false, false, false, false, false, false, false, false, false, false, false, false] rfl rfl (any_of HT_.out (by kernel_rfl)) (fun _ _ _ h => h) (Or.inl ⟨by rfl, ?_⟩) ?_ ?_
               rotate_left
               ·
                intro w'
                go_simp
                with_reducible rfl
               rotate_left
               ·
                simp only [Act.put, qSa, qS0, qS1, i64_w, i32_w]
                rfl
               refine pure_ (i := 4) (N := some 84) (v := ?_) (a' := ?_) #[true, true, true, true, true, false, false, false, false, false, false, false, false, false, false, false] rfl rfl (any_of HT_.out (by kernel_rfl)) (fun _ _ _ h => h) (Or.inl ⟨by rfl, ?_⟩) ?_ ?_
               rotate_left
               ·
                intro w'
                go_simp
                with_reducible rfl
               rotate_left
               ·
                simp only [Act.put, qSa, qS0, qS1, i64_w, i32_w]
                rfl
               refine pure_ (i := 5) (N := some 85) (v := ?_) (a' := ?_) #[true, true, true, true, true, true, false, false, false, false, false, false, false, false, false, false] rfl rfl (any_of HT_.out (by kernel_rfl)) (fun _ _ _ h => h) (Or.inl ⟨by rfl, ?_⟩) ?_ ?_
               rotate_left
               ·
                intro w'
                go_simp
                with_reducible rfl
               rotate_left
               ·
                simp only [Act.put, qSa, qS0, qS1, i64_w, i32_w]
                rfl
               refine pure_ (i := 6) (N := some 86) (v := ?_) (a' := ?_) #[true, true, true, true, true, true, true, false, false, false, false, false, false, false, false, false] rfl rfl (any_of HT_.out (by kernel_rfl)) (fun _ _ _ h => h) (Or.inl ⟨by rfl, ?_⟩) ?_ ?_
               rotate_left
               ·
                intro w'
                go_simp
                with_reducible rfl
               rotate_left
               ·
                simp only [Act.put, qSa, qS0, qS1, i64_w, i32_w]
                rfl
               refine pure_ (i := 7) (N := some 87) (v := ?_) (a' := ?_) #[true, true, true, true, true, true, true, true, false, false, false, false, false, false, false, false] rfl rfl (any_of HT_.out (by kernel_rfl)) (fun _ _ _ h => h) (Or.inl ⟨by rfl, ?_⟩) ?_ ?_
               rotate_left
               ·
                intro w'
                go_simp
                with_reducible rfl
               rotate_left
               ·
                simp only [Act.put, qSa, qS0, qS1, i64_w, i32_w]
                rfl
               refine pure_ (i := 8) (N := some 88) (v := ?_) (a' := ?_) #[true, true, true, true, true, true, true, true, true, false, false, false, false, false, false, false] rfl rfl (any_of HT_.out (by kernel_rfl)) (fun _ _ _ h => h) (Or.inl ⟨by rfl, ?_⟩) ?_ ?_
               rotate_left
               ·
                intro w'
                go_simp
                with_reducible rfl
               rotate_left
               ·
                simp only [Act.put, qSa, qS0, qS1, i64_w, i32_w]
                rfl
               refine pure_ (i := 10) (N := some 90) (v := ?_) (a' := ?_) #[true, true, true, true, true, true, true, true, true, false, true, false, false, false, false, false] rfl rfl (any_of HT_.out (by kernel_rfl)) (fun _ _ _ h => h) (Or.inl ⟨by rfl, ?_⟩) ?_ ?_
               rotate_left
               ·
                intro w'
                go_simp
                with_reducible rfl
               rotate_left
               ·
                simp only [Act.put, qSa, qS0, qS1, i64_w, i32_w]
                rfl
               refine pure_ (i := 11) (N := some 91) (v := ?_) (a' := ?_) #[true, true, true, true, true, true, true, true, true, false, true, true, false, false, false, false] rfl rfl (any_of HT_.out (by kernel_rfl)) (fun _ _ _ h => h) (Or.inl ⟨by rfl, ?_⟩) ?_ ?_
               rotate_left
               ·
                intro w'
                go_simp
                with_reducible rfl
               rotate_left
               ·
                simp only [Act.put, qSa, qS0, qS1, i64_w, i32_w]
                rfl
               refine pure_ (i := 12) (N := some 92) (v := ?_) (a' := ?_) #[true, true, true, true, true, true, true, true, true, false, true, true, true, false, false, false] rfl rfl (any_of HT_.out (by kernel_rfl)) (fun _ _ _ h => h) (Or.inl ⟨by rfl, ?_⟩) ?_ ?_
               rotate_left
               ·
                intro w'
                go_simp
                with_reducible rfl
               rotate_left
               ·
                simp only [Act.put, qSa, qS0, qS1, i64_w, i32_w]
                rfl
               refine take_ (i := 9) (N := some 89) (v := ?_) (a' := ?_) #[true, true, true, true, true, true, true, true, true, true, true, true, true, false, false, false] rfl rfl (take_ofW HT_.out HW_.out (by kernel_rfl)) (fun _ _ _ h => h) (Or.inl ⟨by rfl, ?_⟩) hHeld ?_ ?_
               rotate_left
               ·
                rintro w' ⟨s0, s1⟩
                go_simp
                with_reducible rfl
               rotate_left
               ·
                simp only [Act.put, qSa, qS0, qS1, i64_w, i32_w]
                rfl
               refine take_ (i := 13) (N := some 93) (v := ?_) (a' := ?_) #[true, true, true, true, true, true, true, true, true, true, true, true, true, true, false, false] rfl rfl (take_ofW HT_.out HW_.out (by kernel_rfl)) (fun _ _ _ h => h) (Or.inl ⟨by rfl, ?_⟩) hHeld ?_ ?_
               rotate_left
               ·
                rintro w' ⟨s0, s1⟩
                go_simp
                with_reducible rfl
               rotate_left
               ·
                simp only [Act.put, qSa, qS0, qS1, i64_w, i32_w]
                rfl
               refine pure_ (i := 14) (N := some 94) (v := ?_) (a' := ?_) #[true, true, true, true, true, true, true, true, true, true, true, true, true, true, true, false] rfl rfl (any_of HT_.out (by kernel_rfl)) (fun _ _ _ h => h) (Or.inl ⟨by rfl, ?_⟩) ?_ ?_
               rotate_left
               ·
                intro w'
                go_simp
                with_reducible rfl
               rotate_left
               ·
                simp only [Act.put, qSa, qS0, qS1, i64_w, i32_w]
                rfl
               refine pure_ (i := 15) (N := some 95) (v := ?_) (a' := ?_) #[true, true, true, true, true, true, true, true, true, true, true, true, true, true, true, true] rfl rfl (any_of HT_.out (by kernel_rfl)) (fun _ _ _ h => h) (Or.inl ⟨by rfl, ?_⟩) ?_ ?_
               rotate_left
               ·
                intro w'
                go_simp
                with_reducible rfl
               rotate_left
               ·
                simp only [Act.put, qSa, qS0, qS1, i64_w, i32_w]
                rfl
               refine done_ (done_of HT_.out (by kernel_rfl)) ?_
               try go_wp2
               go_roundg k3
               case measure => have := HJ3.out; have := HJ12.out; have := HK3.out; omega
               case rel => exact ⟨(wrap64 (x14_3 + 1)), (by first | rfl | (simp; done) | (simp [*]; done)), H', ⟨by have := HJ3.out; have := HJ12.out; have := HK3.out; omega⟩, ⟨by (with_reducible repeat (first | apply Kd.R_alloc | apply Kd.R_drewN | apply Kd.R_drew)); exact HO_7.out⟩, ⟨by (with_reducible repeat (first | apply Kd.R_alloc | apply Kd.R_drewN | apply Kd.R_drew)); exact HO_12.out⟩, ⟨by (with_reducible repeat (first | apply Kd.R_alloc | apply Kd.R_drewN | apply Kd.R_drew)); exact HO_13.out⟩, ⟨by repeat (first | (with_reducible first | exact HB.out | apply bAl | apply pbD | apply bD1) | exact HB.out)⟩⟩
              ·
               rw [if_neg c48] at H
               have c48b0 : ((rdOf ByteArray.empty t359 x14_3).toList == (rdOf ByteArray.empty t362 x14_3).toList) = false := beq_eq_false_iff_ne.mpr c48
               have c48b1 : ((rdOf ByteArray.empty t359 x14_3).toList != (rdOf ByteArray.empty t362 x14_3).toList) = true := bne_iff_ne.mpr c48
               exact absurd ((oI H).trans hT.out) (by decide)
             ·
              rw [if_neg c47] at H
              exact absurd H (by simp)
            ·
             rw [if_neg c46] at H
             exact absurd H (by simp)
           ·
            rw [if_neg c45] at H
            have c45b0 : ((t359.length : Int) == (t362.length : Int)) = false := beq_eq_false_iff_ne.mpr c45
            have c45b1 : ((t359.length : Int) != (t362.length : Int)) = true := bne_iff_ne.mpr c45
            have c45b2 : (t359.length == t362.length) = false := by first | simpa using c45 | (simp at c45 ⊢; omega)
            exact absurd ((oI H).trans hT.out) (by decide)
          ·
           rw [if_neg c44] at H
           have c44b0 : decide (x14_3 < (t362.length : Int)) = false := decide_eq_false c44
           clear c44
           by_cases c52 : t359.length < 8796093022208
           ·
            rw [if_pos c52] at H
            have LMc52 := aK c52
            clear c52
            obtain ⟨y367, hy367⟩ : ∃ y_ : List ByteArray, y_ = (List.replicate t359.length (⟨#[]⟩ : ByteArray)) := ⟨_, rfl⟩
            replace H : (w8_RulesPrints.l1 k3 l0 y346 0) = some r := by first | (rw [hy367]; with_reducible exact H) | (have H2_ := (Option.bind_some _ _).symm.trans H; rw [hy367]; with_reducible exact H2_) | (have H2_ := (Option.bind_some _ _).symm.trans H; with_reducible exact H2_) | with_reducible exact H | (rw [hy367]; exact H) | exact H
            have Ny367 := aK hy367
            clear hy367
            have H' := aK H
            clear H
            obtain ⟨Ao53, co53, eo53⟩ := Kd.R_slice HO_13.out
            subst eo53
            go_wp2_with (first | ((with_reducible refine gate_builtin (b := .clear) (xs := #[.tmp 96]) rfl ?_); (try (refine gate_guard (by rfl) ?_; dsimp only)); skip; refine R_clear_str (w0 := w) w.heap.size rfl (.tmp 96) 53 9 rfl Tryz.underlying53 (fun _ => rfl) v360 t359 (fun k_ => some k_ ≠ (.slice Ao53 t362.length co53 : Value).ownBlock) rfl ?aF ?aO ?aB ?aS ?aL ?_; (case aB => exact (by repeat (first | (with_reducible first | exact HB.out | apply bAl | apply pbD | apply bD1) | exact HB.out))); (case aF => exact (fun k_ hk => Kd.fresh' (Kd.R_lt (by (with_reducible repeat (first | apply Kd.R_alloc | apply Kd.R_drewN | apply Kd.R_drew)); exact HO_13.out)) k_ hk)); (case aO => exact (by (with_reducible repeat (first | apply Kd.R_alloc | apply Kd.R_drewN | apply Kd.R_drew)); exact HO_12.out)); (case aS => exact (bSz (by repeat (first | (with_reducible first | exact HB.out | apply bAl | apply pbD | apply bD1) | exact HB.out)))); (case aL => have := LMc52.out; omega); intro v368 w54 ho hb hg hat; rw [← Ny367.out] at ho; have n0_ := aK (Kd.R_over' (by (with_reducible repeat (first | apply Kd.R_alloc | apply Kd.R_drewN | apply Kd.R_drew)); exact HO_7.out) (Kd.R_typed (by (with_reducible repeat (first | apply Kd.R_alloc | apply Kd.R_drewN | apply Kd.R_drew)); exact HO_12.out)) (by decide) hg); have n1_ := aK (Kd.R_after (ok := (fun _ => True)) (by (with_reducible repeat (first | apply Kd.R_alloc | apply Kd.R_drewN | apply Kd.R_drew)); exact Kd.R_mono HO_13.out (fun _ hk => ⟨trivial, hk⟩)) hg hat); have n2_ := aK (hb); have n3_ := aK (ho); clear HO_7; clear HO_13; clear HB; clear HO_12; have HO_7 := n0_; have HO_13 := n1_; have HB := n2_; have HO369 := n3_; clear n0_ n1_ n2_ n3_; clear ho hb hg hat))
            go_loopg [15] k3 (fun kq v15 w' => ∃ (x15_4 : Int), v15 = .int .i64 x15_4 ∧ Aside0 (w8_RulesPrints.l1 kq l0 y346 x15_4 = some r) ∧ Aside0 (kq ≤ k3) ∧ Aside0 (Kd.R k47 47 w' w.heap.size (fun _ => True) (.slice Ao17 y346.length co17) y346) ∧ Aside0 (Below w.heap.size w w'))
            case atStart => exact ⟨(0), (by first | rfl | (simp; done) | (simp [*]; done)), H', ⟨Nat.le_refl _⟩, ⟨by (with_reducible repeat (first | apply Kd.R_alloc | apply Kd.R_drewN | apply Kd.R_drew)); exact HO_7.out⟩, ⟨by repeat (first | (with_reducible first | exact HB.out | apply bAl | apply pbD | apply bD1) | exact HB.out)⟩⟩
            case round =>
             clear H'
             try clear c1
             try clear c2
             try clear p2
             try clear c3
             try clear p3
             try clear q3
             try clear hx3
             try clear c4
             try clear c5
             try clear c6
             try clear p6
             try clear c7
             try clear c10
             try clear c13
             try clear c17
             try clear c18
             try clear c20
             try clear c20b0
             try clear c20b1
             try clear c21
             try clear c21b0
             try clear c21b1
             try clear c24
             try clear c24b0
             try clear c24b1
             try clear c27
             try clear c27b0
             try clear c27b1
             try clear c28
             try clear c29
             try clear p36
             try clear q36
             try clear hx36
             try clear c39
             try clear c44
             try clear c44b0
             try clear c45
             try clear c45b0
             try clear c45b1
             try clear c45b2
             try clear c46
             try clear c46b0
             try clear c47
             try clear c47b0
             try clear c48
             try clear c48b0
             try clear c48b1
             try clear c52
             try clear hx365_0
             try clear hx366_0
             try clear p2
             try clear p365
             try clear p366
             try clear q365
             try clear q366
             obtain ⟨x15_4, rfl, HA, HK4, HO_7, HB⟩ := hrel
             cases gk with
             | zero => exact absurd HA.out (by simp [w8_RulesPrints.l1])
             | succ k4 =>
              have H := HA.out
              clear HA
              simp only [w8_RulesPrints.l1] at H
              have HC55 := aK H
              clear H
              go_upto_region 16 with (fail)
              go_cut [104] (fun v104 wc => ∃ (kq : Nat) (x104_54 : Bool), v104 = .bool x104_54 ∧ Aside0 (w8_RulesPrints.j4 kq l0 y346 x15_4 x104_54 = some r) ∧ Aside0 (kq ≤ k4) ∧ Aside0 (Kd.R k47 47 wc w.heap.size (fun _ => True) (.slice Ao17 y346.length co17) y346) ∧ Aside0 (Below w.heap.size w wc))
              case first =>
               have H := HC55.out
               clear HC55
               by_cases c56 : x15_4 < (l0.length : Int)
               ·
                rw [if_pos c56] at H
                have c56b0 : decide (x15_4 < (l0.length : Int)) = true := decide_eq_true c56
                clear c56
                (first | rw [c56b0] | (simp only [i64_w, i32_w]; rw [c56b0]) | skip)
                have H' := aK H
                clear H
                go_wp2
                go_meet
                case rel => exact ⟨_, (decide (x15_4 < 50)), (by first | rfl | (simp; done) | (simp [*]; done)), H', ⟨by have := HJ3.out; have := HJ12.out; have := HK3.out; have := HK4.out; first | omega | exact Nat.le_refl _⟩, ⟨by (with_reducible repeat (first | apply Kd.R_alloc | apply Kd.R_drewN | apply Kd.R_drew)); exact HO_7.out⟩, ⟨by repeat (first | (with_reducible first | exact HB.out | apply bAl | apply pbD | apply bD1) | exact HB.out)⟩⟩
               ·
                rw [if_neg c56] at H
                have c56b0 : decide (x15_4 < (l0.length : Int)) = false := decide_eq_false c56
                clear c56
                (first | rw [c56b0] | (simp only [i64_w, i32_w]; rw [c56b0]) | skip)
                have H' := aK H
                clear H
                go_wp2
                go_meet
                case rel => exact ⟨_, (false), (by first | rfl | (simp; done) | (simp [*]; done)), H', ⟨by have := HJ3.out; have := HJ12.out; have := HK3.out; have := HK4.out; first | omega | exact Nat.le_refl _⟩, ⟨by (with_reducible repeat (first | apply Kd.R_alloc | apply Kd.R_drewN | apply Kd.R_drew)); exact HO_7.out⟩, ⟨by repeat (first | (with_reducible first | exact HB.out | apply bAl | apply pbD | apply bD1) | exact HB.out)⟩⟩
              case rest =>
               clear HC55
               try clear c1
               try clear c2
               try clear p2
               try clear c3
               try clear p3
               try clear q3
               try clear hx3
               try clear c4
               try clear c5
               try clear c6
               try clear p6
               try clear c7
               try clear c10
               try clear c13
               try clear c17
               try clear c18
               try clear c20
               try clear c20b0
               try clear c20b1
               try clear c21
               try clear c21b0
               try clear c21b1
               try clear c24
               try clear c24b0
               try clear c24b1
               try clear c27
               try clear c27b0
               try clear c27b1
               try clear c28
               try clear c29
               try clear p36
               try clear q36
               try clear hx36
               try clear c39
               try clear c44
               try clear c44b0
               try clear c45
               try clear c45b0
               try clear c45b1
               try clear c45b2
               try clear c46
               try clear c46b0
               try clear c47
               try clear c47b0
               try clear c48
               try clear c48b0
               try clear c48b1
               try clear c52
               try clear c56
               try clear c56b0
               try clear hx365_0
               try clear hx366_0
               try clear p2
               try clear p3
               try clear p36
               try clear p365
               try clear p366
               try clear p6
               try clear q3
               try clear q36
               try clear q365
               try clear q366
               obtain ⟨kq, x104_54, rfl, HA, HJ54, HO_7, HB⟩ := hcut
               cases kq with
               | zero => exact absurd HA.out (by simp [w8_RulesPrints.j4])
               | succ kj54 =>
                have H := HA.out
                clear HA
                simp only [w8_RulesPrints.j4] at H
                by_cases c57 : x104_54 = true
                ·
                 subst c57
                 have H1 : (if 0 ≤ x15_4 then (if x15_4 < (y346.length : Int) then ((rules_May.f kj54 ((rd_T47 y346 x15_4).f0) ((rd_T47 y346 x15_4).f1) ((rd_T47 y346 x15_4).f2) ((rd_T47 y346 x15_4).f3) ((rd_T47 y346 x15_4).f4)).bind fun t373 => (if x15_4 < (l0.length : Int) then ((r8_May.f kj54 ((rd_T47 l0 x15_4).f0) ((rd_T47 l0 x15_4).f1) ((rd_T47 l0 x15_4).f2) ((rd_T47 l0 x15_4).f3) ((rd_T47 l0 x15_4).f4)).bind fun t375 => (if (t373 != t375) = true then (some false) else (w8_RulesPrints.l1 kj54 l0 y346 (wrap64 (x15_4 + 1))))) else (none))) else (none)) else (none)) = some r := by rw [if_pos rfl] at H; exact H
                 clear H
                 have H := H1
                 clear H1
                 by_cases c58 : 0 ≤ x15_4
                 ·
                  rw [if_pos c58] at H
                  have c58b0 : decide (0 ≤ x15_4) = true := decide_eq_true c58
                  clear c58
                  by_cases c59 : x15_4 < (y346.length : Int)
                  ·
                   rw [if_pos c59] at H
                   have c59b0 : decide (x15_4 < (y346.length : Int)) = true := decide_eq_true c59
                   clear c59
                   replace H := oB H
                   obtain ⟨t373, A600, H⟩ := H
                   try dsimp only at H
                   have A60 := aK A600
                   clear A600
                   by_cases c61 : x15_4 < (l0.length : Int)
                   ·
                    rw [if_pos c61] at H
                    have c61b0 : decide (x15_4 < (l0.length : Int)) = true := decide_eq_true c61
                    clear c61
                    replace H := oB H
                    obtain ⟨t375, A620, H⟩ := H
                    try dsimp only at H
                    have A62 := aK A620
                    clear A620
                    by_cases c63 : (t373 != t375) = true
                    ·
                     rw [if_pos c63] at H
                     have c63b0 : (t373 != t375) = true := c63
                     (try (have c63b1 : decide (t373 = t375) = false := by simpa using c63))
                     (try (have c63b2 : (t373 == t375) = false := by simpa using c63))
                     (try (have c63b3 : ¬ (t373 = t375) := by simpa using c63))
                     clear c63
                     exact absurd ((oI H).trans hT.out) (by decide)
                    ·
                     rw [if_neg c63] at H
                     have c63b0 : (t373 != t375) = false := by simpa using c63
                     (try (have c63b1 : decide (t373 = t375) = true := by simpa using c63))
                     (try (have c63b2 : (t373 == t375) = true := by simpa using c63))
                     clear c63
                     have H' := aK H
                     clear H
                     try go_wp2
                     have n0_ := aK (Kd.R_drew HO_7.out)
                     have n1_ := aK (bD1 HB.out)
                     clear HO_7
                     clear HB
                     have HO_7 := n0_
                     have HB := n1_
                     clear n0_ n1_
                     have p372 : 0 ≤ (x15_4 : Int) := odT (by first | (with_reducible assumption) | assumption)
                     have q372 : x15_4 < (y346.length : Int) := odT (by first | (with_reducible assumption) | assumption)
                     obtain ⟨ad372, e372, hx372_0, hx372_1, hx372_2, hx372_3, hx372_4⟩ := at_T47 (Kd.R_reads' HO_7.out).2.2 x15_4 p372 q372
                     cases e372
                     replace p372 := eq_true p372
                     replace q372 := eq_true q372
                     have p374 : 0 ≤ (x15_4 : Int) := odT (by first | (with_reducible assumption) | assumption)
                     have q374 : x15_4 < (l0.length : Int) := odT (by first | (with_reducible assumption) | assumption)
                     obtain ⟨ad374, e374, hx374_0, hx374_1, hx374_2, hx374_3, hx374_4⟩ := at_T47 HR0.out x15_4 p374 q374
                     have hw374_4 := hx374_4
                     have hw374_3 := hx374_3
                     have hw374_2 := hx374_2
                     have hw374_1 := hx374_1
                     have hw374_0 := hx374_0
                     cases e374
                     replace hx374_0 := (HB.out.cell (World.block_lt_of_cell? w _ hx374_0)).trans hx374_0
                     replace hx374_1 := (HB.out.cell (World.block_lt_of_cell? w _ hx374_1)).trans hx374_1
                     replace hx374_2 := (HB.out.cell (World.block_lt_of_cell? w _ hx374_2)).trans hx374_2
                     replace hx374_3 := (HB.out.cell (World.block_lt_of_cell? w _ hx374_3)).trans hx374_3
                     replace hx374_4 := (HB.out.cell (World.block_lt_of_cell? w _ hx374_4)).trans hx374_4
                     replace p374 := eq_true p374
                     replace q374 := eq_true q374
                     refine start_ (n := 11) (S := fun w' => w'.cell? (ad372.add ((x15_4).toNat * 5)) = some (.int .i64 ((rd_T47 y346 x15_4).f0)) ∧ w'.cell? ⟨(ad372.add ((x15_4).toNat * 5)).block, (ad372.add ((x15_4).toNat * 5)).off + 1, none⟩ = some (.string ((rd_T47 y346 x15_4).f1)) ∧ w'.cell? ⟨(ad372.add ((x15_4).toNat * 5)).block, (ad372.add ((x15_4).toNat * 5)).off + 2, none⟩ = some (.string ((rd_T47 y346 x15_4).f2)) ∧ w'.cell? ⟨(ad372.add ((x15_4).toNat * 5)).block, (ad372.add ((x15_4).toNat * 5)).off + 3, none⟩ = some (.int .i64 ((rd_T47 y346 x15_4).f3)) ∧ w'.cell? ⟨(ad372.add ((x15_4).toNat * 5)).block, (ad372.add ((x15_4).toNat * 5)).off + 4, none⟩ = some (.int .i64 ((rd_T47 y346 x15_4).f4)) ∧ w'.cell? (ad374.add ((x15_4).toNat * 5)) = some (.int .i64 ((rd_T47 l0 x15_4).f0)) ∧ w'.cell? ⟨(ad374.add ((x15_4).toNat * 5)).block, (ad374.add ((x15_4).toNat * 5)).off + 1, none⟩ = some (.string ((rd_T47 l0 x15_4).f1)) ∧ w'.cell? ⟨(ad374.add ((x15_4).toNat * 5)).block, (ad374.add ((x15_4).toNat * 5)).off + 2, none⟩ = some (.string ((rd_T47 l0 x15_4).f2)) ∧ w'.cell? ⟨(ad374.add ((x15_4).toNat * 5)).block, (ad374.add ((x15_4).toNat * 5)).off + 3, none⟩ = some (.int .i64 ((rd_T47 l0 x15_4).f3)) ∧ w'.cell? ⟨(ad374.add ((x15_4).toNat * 5)).block, (ad374.add ((x15_4).toNat * 5)).off + 4, none⟩ = some (.int .i64 ((rd_T47 l0 x15_4).f4))) (ds := []) #[false, false, false, false, false, false, false, false, false, false, false] (by kernel_rfl) rfl rfl ⟨hx372_0, hx372_1, hx372_2, hx372_3, hx372_4, ((HB.out.cell (World.block_lt_of_cell? w _ hw374_0)).trans hw374_0), ((HB.out.cell (World.block_lt_of_cell? w _ hw374_1)).trans hw374_1), ((HB.out.cell (World.block_lt_of_cell? w _ hw374_2)).trans hw374_2), ((HB.out.cell (World.block_lt_of_cell? w _ hw374_3)).trans hw374_3), ((HB.out.cell (World.block_lt_of_cell? w _ hw374_4)).trans hw374_4)⟩ (fun hHeld => ?_); refine with_tabW w8_RulesPrints.tab18 w8_RulesPrints.bits18 (fun HT_ HW_ => ?_)
                     generalize wc.drew = w64 at HO_7 HB hx372_0 hx372_1 hx372_2 hx372_3 hx372_4 hx374_0 hx374_1 hx374_2 hx374_3 hx374_4 hHeld ⊢
                     refine pure_ (i := 0) (N := some 107) (v := ?_) (a' := ?_) #[true, false, false, false, false, false, false, false, false, false, false] rfl rfl (any_of HT_.out (by kernel_rfl)) (fun _ _ _ h => h) (Or.inl ⟨by rfl, ?_⟩) ?_ ?_
                     rotate_left
                     ·
                      intro w'
                      go_simp
                      with_reducible rfl
                     rotate_left
                     ·
                      simp only [Act.put, qSa, qS0, qS1, i64_w, i32_w]
                      rfl
                     refine pure_ (i := 1) (N := some 108) (v := ?_) (a' := ?_) #[true, true, false, false, false, false, false, false, false, false, false] rfl rfl (any_of HT_.out (by kernel_rfl)) (fun _ _ _ h => h) (Or.inl ⟨by rfl, ?_⟩) ?_ ?_
                     rotate_left
                     ·
                      intro w'
                      go_simp
                      with_reducible rfl
                     rotate_left
                     ·
                      simp only [Act.put, qSa, qS0, qS1, i64_w, i32_w]
                      rfl
                     refine pure_ (i := 2) (N := some 109) (v := ?_) (a' := ?_) #[true, true, true, false, false, false, false, false, false, false, false] rfl rfl (any_of HT_.out (by kernel_rfl)) (fun _ _ _ h => h) (Or.inl ⟨by rfl, ?_⟩) ?_ ?_
                     rotate_left
                     ·
                      intro w'
                      go_simp
                      with_reducible rfl
                     rotate_left
                     ·
                      simp only [Act.put, qSa, qS0, qS1, i64_w, i32_w]
                      rfl
                     refine pure_ (i := 5) (N := some 112) (v := ?_) (a' := ?_) #[true, true, true, false, false, true, false, false, false, false, false] rfl rfl (any_of HT_.out (by kernel_rfl)) (fun _ _ _ h => h) (Or.inl ⟨by rfl, ?_⟩) ?_ ?_
                     rotate_left
                     ·
                      intro w'
                      go_simp
                      with_reducible rfl
                     rotate_left
                     ·
                      simp only [Act.put, qSa, qS0, qS1, i64_w, i32_w]
                      rfl
                     refine pure_ (i := 6) (N := some 113) (v := ?_) (a' := ?_) #[true, true, true, false, false, true, true, false, false, false, false] rfl rfl (any_of HT_.out (by kernel_rfl)) (fun _ _ _ h => h) (Or.inl ⟨by rfl, ?_⟩) ?_ ?_
                     rotate_left
                     ·
                      intro w'
                      go_simp
                      with_reducible rfl
                     rotate_left
                     ·
                      simp only [Act.put, qSa, qS0, qS1, i64_w, i32_w]
                      rfl
                     refine pure_ (i := 7) (N := some 114) (v := ?_) (a' := ?_) #[true, true, true, false, false, true, true, true, false, false, false] rfl rfl (any_of HT_.out (by kernel_rfl)) (fun _ _ _ h => h) (Or.inl ⟨by rfl, ?_⟩) ?_ ?_
                     rotate_left
                     ·
                      intro w'
                      go_simp
                      with_reducible rfl
                     rotate_left
                     ·
                      simp only [Act.put, qSa, qS0, qS1, i64_w, i32_w]
                      rfl
                     refine take_ (i := 3) (N := some 110) (v := ?_) (a' := ?_) #[true, true, true, true, false, true, true, true, false, false, false] rfl rfl (take_ofW HT_.out HW_.out (by kernel_rfl)) (fun _ _ _ h => h) (Or.inl ⟨by rfl, ?_⟩) hHeld ?_ ?_
                     rotate_left
                     ·
                      rintro w' ⟨s0, s1, s2, s3, s4, s5, s6, s7, s8, s9⟩
                      go_simp
                      with_reducible rfl
                     rotate_left
                     ·
                      simp only [Act.put, qSa, qS0, qS1, i64_w, i32_w]
                      rfl
                     refine take_ (i := 8) (N := some 115) (v := ?_) (a' := ?_) #[true, true, true, true, false, true, true, true, true, false, false] rfl rfl (take_ofW HT_.out HW_.out (by kernel_rfl)) (fun _ _ _ h => h) (Or.inl ⟨by rfl, ?_⟩) hHeld ?_ ?_
                     rotate_left
                     ·
                      rintro w' ⟨s0, s1, s2, s3, s4, s5, s6, s7, s8, s9⟩
                      go_simp
                      with_reducible rfl
                     rotate_left
                     ·
                      simp only [Act.put, qSa, qS0, qS1, i64_w, i32_w]
                      rfl
                     refine one_ (i := 4) (N := some 111) #[true, true, true, true, true, true, true, true, true, false, false] rfl rfl (one_of HT_.out (by kernel_rfl)) (by decide) (fun K hK => ?_)
                     refine goes_ Tryz.func20 (by kernel_rfl) rfl #[.agg #[.int .i64 ((rd_T47 y346 x15_4).f0), .string ((rd_T47 y346 x15_4).f1), .string ((rd_T47 y346 x15_4).f2), .int .i64 ((rd_T47 y346 x15_4).f3), .int .i64 ((rd_T47 y346 x15_4).f4)]] (by rfl) rfl rfl (by (try simp only [qM0, qM1, qM2]); first | done | rfl | (simp only [qD0, qD1]; rfl)) ?_
                     with_reducible refine (rules_May.calls kj54 ((rd_T47 y346 x15_4).f0) ((rd_T47 y346 x15_4).f1) ((rd_T47 y346 x15_4).f2) ((rd_T47 y346 x15_4).f3) ((rd_T47 y346 x15_4).f4) t373 _ A60.out).mono ?_
                     rintro e w65 ⟨rfl, hb⟩
                     have HS0_ := (hb.cell (World.block_lt_of_cell? _ _ (hHeld.1))).trans (hHeld.1)
                     have HS1_ := (hb.cell (World.block_lt_of_cell? _ _ (hHeld.2.1))).trans (hHeld.2.1)
                     have HS2_ := (hb.cell (World.block_lt_of_cell? _ _ (hHeld.2.2.1))).trans (hHeld.2.2.1)
                     have HS3_ := (hb.cell (World.block_lt_of_cell? _ _ (hHeld.2.2.2.1))).trans (hHeld.2.2.2.1)
                     have HS4_ := (hb.cell (World.block_lt_of_cell? _ _ (hHeld.2.2.2.2.1))).trans (hHeld.2.2.2.2.1)
                     refine ⟨_, rfl, ?_⟩
                     have n0_ := aK (Kd.R_below (by (with_reducible repeat (first | apply Kd.R_alloc | apply Kd.R_drewN | apply Kd.R_drew)); exact HO_7.out) hb)
                     have n1_ := aK (bSp (by repeat (first | (with_reducible first | exact HB.out | apply bAl | apply pbD | apply bD1) | exact HB.out)) hb)
                     clear HO_7
                     clear HB
                     have HO_7 := n0_
                     have HB := n1_
                     clear n0_ n1_
                     (try clear hb)
                     (try clear hb2)
                     (try clear hk)
                     (try clear hi)
                     refine hK.out _ _ ⟨HS0_, HS1_, HS2_, HS3_, HS4_, ((HB.out.cell (World.block_lt_of_cell? w _ hw374_0)).trans hw374_0), ((HB.out.cell (World.block_lt_of_cell? w _ hw374_1)).trans hw374_1), ((HB.out.cell (World.block_lt_of_cell? w _ hw374_2)).trans hw374_2), ((HB.out.cell (World.block_lt_of_cell? w _ hw374_3)).trans hw374_3), ((HB.out.cell (World.block_lt_of_cell? w _ hw374_4)).trans hw374_4)⟩ (fun hHeld => ?_)
                     clear hK K
                     refine norm_ (a' := ?_) ?_ ?_
                     rotate_left
                     ·
                      show Act.put _ (some 111) _ = _
                      simp only [Act.put, qSa, qS0, qS1, i64_w, i32_w]
                      rfl
                     refine one_ (i := 9) (N := some 116) #[true, true, true, true, true, true, true, true, true, true, false] rfl rfl (one_of HT_.out (by kernel_rfl)) (by decide) (fun K hK => ?_)
                     refine goes_ Tryz.func30 (by kernel_rfl) rfl #[.agg #[.int .i64 ((rd_T47 l0 x15_4).f0), .string ((rd_T47 l0 x15_4).f1), .string ((rd_T47 l0 x15_4).f2), .int .i64 ((rd_T47 l0 x15_4).f3), .int .i64 ((rd_T47 l0 x15_4).f4)]] (by rfl) rfl rfl (by (try simp only [qM0, qM1, qM2]); first | done | rfl | (simp only [qD0, qD1]; rfl)) ?_
                     with_reducible refine (r8_May.calls kj54 ((rd_T47 l0 x15_4).f0) ((rd_T47 l0 x15_4).f1) ((rd_T47 l0 x15_4).f2) ((rd_T47 l0 x15_4).f3) ((rd_T47 l0 x15_4).f4) t375 _ A62.out).mono ?_
                     rintro e w66 ⟨rfl, hb⟩
                     have HS0_ := (hb.cell (World.block_lt_of_cell? _ _ (hHeld.1))).trans (hHeld.1)
                     have HS1_ := (hb.cell (World.block_lt_of_cell? _ _ (hHeld.2.1))).trans (hHeld.2.1)
                     have HS2_ := (hb.cell (World.block_lt_of_cell? _ _ (hHeld.2.2.1))).trans (hHeld.2.2.1)
                     have HS3_ := (hb.cell (World.block_lt_of_cell? _ _ (hHeld.2.2.2.1))).trans (hHeld.2.2.2.1)
                     have HS4_ := (hb.cell (World.block_lt_of_cell? _ _ (hHeld.2.2.2.2.1))).trans (hHeld.2.2.2.2.1)
                     refine ⟨_, rfl, ?_⟩
                     have n0_ := aK (Kd.R_below (by (with_reducible repeat (first | apply Kd.R_alloc | apply Kd.R_drewN | apply Kd.R_drew)); exact HO_7.out) hb)
                     have n1_ := aK (bSp (by repeat (first | (with_reducible first | exact HB.out | apply bAl | apply pbD | apply bD1) | exact HB.out)) hb)
                     clear HO_7
                     clear HB
                     have HO_7 := n0_
                     have HB := n1_
                     clear n0_ n1_
                     (try clear hb)
                     (try clear hb2)
                     (try clear hk)
                     (try clear hi)
                     refine hK.out _ _ ⟨HS0_, HS1_, HS2_, HS3_, HS4_, ((HB.out.cell (World.block_lt_of_cell? w _ hw374_0)).trans hw374_0), ((HB.out.cell (World.block_lt_of_cell? w _ hw374_1)).trans hw374_1), ((HB.out.cell (World.block_lt_of_cell? w _ hw374_2)).trans hw374_2), ((HB.out.cell (World.block_lt_of_cell? w _ hw374_3)).trans hw374_3), ((HB.out.cell (World.block_lt_of_cell? w _ hw374_4)).trans hw374_4)⟩ (fun hHeld => ?_)
                     clear hK K
                     refine norm_ (a' := ?_) ?_ ?_
                     rotate_left
                     ·
                      show Act.put _ (some 116) _ = _
                      simp only [Act.put, qSa, qS0, qS1, i64_w, i32_w]
                      rfl
                     refine pure_ (i := 10) (N := some 117) (v := ?_) (a' := ?_) #[true, true, true, true, true, true, true, true, true, true, true] rfl rfl (any_of HT_.out (by kernel_rfl)) (fun _ _ _ h => h) (Or.inl ⟨by rfl, ?_⟩) ?_ ?_
                     rotate_left
                     ·
                      intro w'
                      go_simp
                      with_reducible rfl
                     rotate_left
                     ·
                      simp only [Act.put, qSa, qS0, qS1, i64_w, i32_w]
                      rfl
                     refine done_ (done_of HT_.out (by kernel_rfl)) ?_
                     try go_wp2
                     go_roundg kj54
                     case measure => have := HJ3.out; have := HJ12.out; have := HK3.out; have := HK4.out; have := HJ54.out; omega
                     case rel => exact ⟨(wrap64 (x15_4 + 1)), (by first | rfl | (simp; done) | (simp [*]; done)), H', ⟨by have := HJ3.out; have := HJ12.out; have := HK3.out; have := HK4.out; have := HJ54.out; omega⟩, ⟨by (with_reducible repeat (first | apply Kd.R_alloc | apply Kd.R_drewN | apply Kd.R_drew)); exact HO_7.out⟩, ⟨by repeat (first | (with_reducible first | exact HB.out | apply bAl | apply pbD | apply bD1) | exact HB.out)⟩⟩
                   ·
                    rw [if_neg c61] at H
                    exact absurd H (by simp)
                  ·
                   rw [if_neg c59] at H
                   exact absurd H (by simp)
                 ·
                  rw [if_neg c58] at H
                  exact absurd H (by simp)
                ·
                 replace c57 := Bool.eq_false_iff.mpr c57
                 subst c57
                 have H1 : ((r8_Same.f kj54 y346 l0).bind fun t370 => (if t370 = true then ((w8_awake.f kj54).bind fun t371 => (some t371)) else (some false))) = some r := by rw [if_neg (show ¬ (false = true) by decide)] at H; exact H
                 clear H
                 have H := H1
                 clear H1
                 replace H := oB H
                 obtain ⟨t370, A670, H⟩ := H
                 try dsimp only at H
                 have A67 := aK A670
                 clear A670
                 by_cases c68 : t370 = true
                 ·
                  subst c68
                  have H1 : ((w8_awake.f kj54).bind fun t371 => (some t371)) = some r := by rw [if_pos rfl] at H; exact H
                  clear H
                  have H := H1
                  clear H1
                  replace H := oB H
                  obtain ⟨t371, A690, H⟩ := H
                  replace H : (some t371) = some r := H
                  have A69 := aK A690
                  clear A690
                  obtain rfl := oI H
                  go_wp2_with (first | ((with_reducible refine gate_callee (f := 16) rfl ?_); refine goesL_ (some 120) rfl rfl Tryz.func16 (by kernel_rfl) rfl #[.slice Ao17 y346.length co17, .slice A0 l0.length c0] rfl (by (try simp only [qM0, qM1, qM2]); first | done | rfl | (simp only [qD0, qD1]; rfl)) ?_; (with_reducible refine (r8_Same.calls kj54 _ _ y346 _ _ l0 true _ ?side1 ?side2 ?side3 ?side4 A67.out).mono ?_); (case side1 => repeat (first | exact (Kd.R_reads' HO_7.out).2.2 | (with_reducible refine Kd.C_alloc ?_ _) | (with_reducible refine Kd.C_drewN ?_ _) | (with_reducible refine Kd.C_drew ?_))); (case side2 => exact (Kd.R_reads' HO_7.out).2.1); (case side3 => repeat (first | exact (Kd.C_below HR0.out HB.out) | (with_reducible refine Kd.C_alloc ?_ _) | (with_reducible refine Kd.C_drewN ?_ _) | (with_reducible refine Kd.C_drew ?_))); (case side4 => exact HC0.out); rintro e w' ⟨rfl, ⟨nd, rfl⟩⟩; refine ⟨_, rfl, ?_⟩) | (go_at_call 13; (with_reducible refine (w8_awake.calls kj54  t371 _ A69.out).mono ?_); rintro e w70 ⟨rfl, hb⟩; have n0_ := aK (Kd.R_below (by (with_reducible repeat (first | apply Kd.R_alloc | apply Kd.R_drewN | apply Kd.R_drew)); exact HO_7.out) hb); have n1_ := aK (bSp (by repeat (first | (with_reducible first | exact HB.out | apply bAl | apply pbD | apply bD1) | exact HB.out)) hb); clear HO_7; clear HB; have HO_7 := n0_; have HB := n1_; clear n0_ n1_; (try clear hb); (try clear hb2); (try clear hk); (try clear hi)))
                  go_ret
                  exact ⟨by first | rfl | (simp [eWn, eWs] <;> rfl) | (simp [*, eWn, eWs] <;> rfl), by repeat (first | (with_reducible first | exact HB.out | apply bAl | apply pbD | apply bD1) | exact HB.out)⟩
                 ·
                  replace c68 := Bool.eq_false_iff.mpr c68
                  subst c68
                  have H1 : (some false) = some r := by rw [if_neg (show ¬ (false = true) by decide)] at H; exact H
                  clear H
                  have H := H1
                  clear H1
                  exact absurd ((oI H).trans hT.out) (by decide)
           ·
            rw [if_neg c52] at H
            exact absurd H (by simp)
    ·
     rw [if_neg c10] at H
     exact absurd H (by simp)
end Go.Proofs.YtgjkjoocnkdckaaGreatDoor.PChk
