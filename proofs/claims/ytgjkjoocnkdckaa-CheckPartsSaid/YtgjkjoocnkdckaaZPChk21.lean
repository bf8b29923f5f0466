-- Written by a program of this session (prt.py), out of the translation. Lean checks it.
import Derived.Test.YtgjkjoocnkdckaaZGChkTable
import Derived.Test.YtgjkjoocnkdckaaZPChk0
import Derived.Test.YtgjkjoocnkdckaaZPChk2
import Derived.Test.YtgjkjoocnkdckaaZPChk11
namespace Go.Proofs.Ytgjkjoocnkdckaa.PChk
open Go.RowKit Go.Proofs.Ytgjkjoocnkdckaa.G Go.Proofs.YtgjkjoocnkdckaaW.PrintWords Go.Proofs.YtgjkjoocnkdckaaW.PrintLast Go.Proofs.YtgjkjoocnkdckaaW.PrintMore
attribute [local go_sem] max2_int min2_int max_two min_two max_three min_three max_four min_four   -- for this text's walks alone
set_option linter.unusedVariables false
set_option linter.unusedSimpArgs false
abbrev z21_0 : Array Bool := #[false, false, false, false, false, false, false, false, false, false, false, false, false, false, false, false, false, false, false, false, false, false, false, false]
abbrev z21_1 : Array Bool := #[true, false, false, false, false, false, false, false, false, false, false, false, false, false, false, false, false, false, false, false, false, false, false, false]
abbrev z21_2 : Array Bool := #[true, true, false, false, false, false, false, false, false, false, false, false, false, false, false, false, false, false, false, false, false, false, false, false]
abbrev z21_3 : Array Bool := #[true, true, true, false, false, false, false, false, false, false, false, false, false, false, false, false, false, false, false, false, false, false, false, false]
abbrev z21_4 : Array Bool := #[true, true, true, true, false, false, false, false, false, false, false, false, false, false, false, false, false, false, false, false, false, false, false, false]
abbrev z21_5 : Array Bool := #[true, true, true, true, true, false, false, false, false, false, false, false, false, false, false, false, false, false, false, false, false, false, false, false]
abbrev z21_6 : Array Bool := #[true, true, true, true, true, true, false, false, false, false, false, false, false, false, false, false, false, false, false, false, false, false, false, false]
abbrev z21_7 : Array Bool := #[true, true, true, true, true, true, true, false, false, false, false, false, false, false, false, false, false, false, false, false, false, false, false, false]
abbrev z21_8 : Array Bool := #[true, true, true, true, true, true, true, true, false, false, false, false, false, false, false, false, false, false, false, false, false, false, false, false]
abbrev z21_9 : Array Bool := #[true, true, true, true, true, true, true, true, true, false, false, false, false, false, false, false, false, false, false, false, false, false, false, false]
abbrev z21_10 : Array Bool := #[true, true, true, true, true, true, true, true, true, true, false, false, false, false, false, false, false, false, false, false, false, false, false, false]
abbrev z21_11 : Array Bool := #[true, true, true, true, true, true, true, true, true, true, true, true, true, false, false, false, false, false, false, false, false, false, false, false]
abbrev z21_12 : Array Bool := #[true, true, true, true, true, true, true, true, true, true, true, true, true, true, false, false, false, false, false, false, false, false, false, false]
abbrev z21_13 : Array Bool := #[true, true, true, true, true, true, true, true, true, true, true, true, true, true, true, false, false, false, false, false, false, false, false, false]
abbrev z21_14 : Array Bool := #[true, true, true, true, true, true, true, true, true, true, true, true, true, true, true, true, false, false, false, false, false, false, false, false]
abbrev z21_15 : Array Bool := #[true, true, true, true, true, true, true, true, true, true, true, true, true, true, true, true, true, false, false, false, false, false, false, false]
abbrev z21_16 : Array Bool := #[true, true, true, true, true, true, true, true, true, true, true, true, true, true, true, true, true, true, false, false, false, false, false, false]
abbrev z21_17 : Array Bool := #[true, true, true, true, true, true, true, true, true, true, true, true, true, true, true, true, true, true, true, false, false, false, false, false]
abbrev z21_18 : Array Bool := #[true, true, true, true, true, true, true, true, true, true, true, true, true, true, true, true, true, true, true, true, false, false, false, false]
abbrev z21_19 : Array Bool := #[true, true, true, true, true, true, true, true, true, true, true, true, true, true, true, true, true, true, true, true, true, false, false, false]
abbrev z21_20 : Array Bool := #[true, true, true, true, true, true, true, true, true, true, true, true, true, true, true, true, true, true, true, true, true, true, false, false]
abbrev z21_21 : Array Bool := #[true, true, true, true, true, true, true, true, true, true, true, true, true, true, true, true, true, true, true, true, true, true, true, false]
abbrev z21_22 : Array Bool := #[true, true, true, true, true, true, true, true, true, true, true, true, true, true, true, true, true, true, true, true, true, true, true, true]
abbrev z21_23 : Array Bool := #[true, true, true, true, true, true, true, true, true, true, true, false, false, false, false, false, false, false, false, false, false, false, false, false]
abbrev z21_24 : Array Bool := #[true, true, true, true, true, true, true, true, true, true, true, true, false, false, false, false, false, false, false, false, false, false, false, false]
abbrev z21_25 : Array Bool := #[true, true, true, true, true, false, false, false, false, false, false, false]
abbrev z21_26 : Array Bool := #[true, true, true, true, true, true, true, true, true, true, false, true, false, false, false, false, false, false, false, false, false, false, false, false]
abbrev z21_27 : Array Bool := #[true, true, true, true, true, true, true, true, true, true, false, true, true, false, false, false, false, false, false, false, false, false, false, false]
abbrev z21_28 : Array Bool := #[true, true, false, true, true, false, false, false, false, false, false, false]
mutual
def w9_CheckParts.l0 : Nat → List (S23) → Int → List (S23) → Int → Option (Bool)
 | 0, _, _, _, _ => none
 | k + 1, x0, x1, x7, x8 => if x8 > 0 then (if 0 ≤ (wrap64 (x8 - 1)) then (if (wrap64 (x8 - 1)) < (x0.length : Int) then ((some (([(⟨(rd_T23 x0 (wrap64 (x8 - 1))).f0, (rd_T23 x0 (wrap64 (x8 - 1))).f1, (rd_T23 x0 (wrap64 (x8 - 1))).f2, (rd_T23 x0 (wrap64 (x8 - 1))).f3, (rd_T23 x0 (wrap64 (x8 - 1))).f4⟩ : S23)] : List (S23)) : List (S23))).bind fun y434 => (if x7.length + y434.length < 2513169434916 then (w9_CheckParts.l0 k x0 x1 (x7 ++ y434) (wrap64 (x8 - 1))) else (none))) else (none)) else (none)) else ((check_Table.f x7).bind fun bt440 => (if bt440.2 = 0 then (w9_CheckParts.j1 k x0 x1 ((x0.length : Int) == 0)) else (w9_CheckParts.j1 k x0 x1 true)))
def w9_CheckParts.j1 : Nat → List (S23) → Int → Bool → Option (Bool)
 | 0, _, _, _ => none
 | k + 1, x0, x1, x55 => if x55 = true then (some false) else (if (x0.length : Int) = 0 then (none) else ((some (([] : List (S23)) : List (S23))).bind fun y442 => (if 0 ≤ (Int.tmod (Go.bits .and .i64 x1 65535) (x0.length : Int)) then (if (Int.tmod (Go.bits .and .i64 x1 65535) (x0.length : Int)) ≤ (x0.length : Int) then ((some (x0.take ((Int.tmod (Go.bits .and .i64 x1 65535) (x0.length : Int)) : Int).toNat : List (S23))).bind fun y445 => (if y442.length + y445.length < 2513169434916 then ((some (y442 ++ y445 : List (S23))).bind fun y449 => (if 0 ≤ (wrap64 ((Int.tmod (Go.bits .and .i64 x1 65535) (x0.length : Int)) + 1)) then (if (wrap64 ((Int.tmod (Go.bits .and .i64 x1 65535) (x0.length : Int)) + 1)) ≤ (x0.length : Int) then ((some (x0.drop ((wrap64 ((Int.tmod (Go.bits .and .i64 x1 65535) (x0.length : Int)) + 1)) : Int).toNat : List (S23))).bind fun y452 => (if y449.length + y452.length < 2513169434916 then ((some (y449 ++ y452 : List (S23))).bind fun y456 => ((check_Table.f y456).bind fun bt459 => (if (Int.tmod (Go.bits .and .i64 x1 65535) (x0.length : Int)) < (x0.length : Int) then (if ((rd_T23 x0 (Int.tmod (Go.bits .and .i64 x1 65535) (x0.length : Int))).f0) ≥ 6 then (w9_CheckParts.j2 k x0 y456 bt459.1 bt459.2 true ((rd_T23 x0 (Int.tmod (Go.bits .and .i64 x1 65535) (x0.length : Int))).f0) ((rd_T23 x0 (Int.tmod (Go.bits .and .i64 x1 65535) (x0.length : Int))).f1) ((rd_T23 x0 (Int.tmod (Go.bits .and .i64 x1 65535) (x0.length : Int))).f2) ((rd_T23 x0 (Int.tmod (Go.bits .and .i64 x1 65535) (x0.length : Int))).f3) ((rd_T23 x0 (Int.tmod (Go.bits .and .i64 x1 65535) (x0.length : Int))).f4)) else (if ((rd_T23 x0 (Int.tmod (Go.bits .and .i64 x1 65535) (x0.length : Int))).f0) = 1 then (w9_CheckParts.j2 k x0 y456 bt459.1 bt459.2 ((((rd_T23 x0 (Int.tmod (Go.bits .and .i64 x1 65535) (x0.length : Int))).f1).size : Int) == 1) ((rd_T23 x0 (Int.tmod (Go.bits .and .i64 x1 65535) (x0.length : Int))).f0) ((rd_T23 x0 (Int.tmod (Go.bits .and .i64 x1 65535) (x0.length : Int))).f1) ((rd_T23 x0 (Int.tmod (Go.bits .and .i64 x1 65535) (x0.length : Int))).f2) ((rd_T23 x0 (Int.tmod (Go.bits .and .i64 x1 65535) (x0.length : Int))).f3) ((rd_T23 x0 (Int.tmod (Go.bits .and .i64 x1 65535) (x0.length : Int))).f4)) else (w9_CheckParts.j2 k x0 y456 bt459.1 bt459.2 false ((rd_T23 x0 (Int.tmod (Go.bits .and .i64 x1 65535) (x0.length : Int))).f0) ((rd_T23 x0 (Int.tmod (Go.bits .and .i64 x1 65535) (x0.length : Int))).f1) ((rd_T23 x0 (Int.tmod (Go.bits .and .i64 x1 65535) (x0.length : Int))).f2) ((rd_T23 x0 (Int.tmod (Go.bits .and .i64 x1 65535) (x0.length : Int))).f3) ((rd_T23 x0 (Int.tmod (Go.bits .and .i64 x1 65535) (x0.length : Int))).f4)))) else (none)))) else (none))) else (none)) else (none))) else (none))) else (none)) else (none))))
def w9_CheckParts.j2 : Nat → List (S23) → List (S23) → Int → Int → Bool → Int → ByteArray → ByteArray → Int → Int → Option (Bool)
 | 0, _, _, _, _, _, _, _, _, _, _ => none
 | k + 1, x0, x12, x13, x14, x16, x463000, x463001, x463002, x463003, x463004 => if x16 = true then (if x14 = 6 then (if x13 = 0 then ((check_Missing.f x12).bind fun t463 => (if t463.toList = x463001.toList then (w9_CheckParts.j3 k x0 false x463000 x463001 x463002 x463003 x463004) else (w9_CheckParts.j3 k x0 true x463000 x463001 x463002 x463003 x463004))) else (w9_CheckParts.j3 k x0 true x463000 x463001 x463002 x463003 x463004)) else (w9_CheckParts.j3 k x0 true x463000 x463001 x463002 x463003 x463004)) else (w9_CheckParts.j3 k x0 (x14 != 0) x463000 x463001 x463002 x463003 x463004)
def w9_CheckParts.j3 : Nat → List (S23) → Bool → Int → ByteArray → ByteArray → Int → Int → Option (Bool)
 | 0, _, _, _, _, _, _, _ => none
 | k + 1, x0, x117, x463000, x463001, x463002, x463003, x463004 => if x117 = true then (some false) else ((some (([] : List (S23)) : List (S23))).bind fun y464 => (if y464.length + x0.length < 2513169434916 then ((some (y464 ++ x0 : List (S23))).bind fun y467 => ((some (([(⟨x463000, x463001, x463002, x463003, x463004⟩ : S23)] : List (S23)) : List (S23))).bind fun y470 => (if y467.length + y470.length < 2513169434916 then ((check_Table.f (y467 ++ y470)).bind fun bt476 => (if bt476.1 = x463004 then (if bt476.2 = 6 then ((w9_awake.f k).bind fun t478 => (some t478)) else (some false)) else (some false))) else (none)))) else (none)))
end
def w9_CheckParts.f (k : Nat) (l0 : List (S23)) (a1 : Int) : Option (Bool) := (w9_long.f k l0).bind fun t428 => (if t428 = true then ((w9_awake.f k).bind fun t429 => (some t429)) else ((check_Table.f l0).bind fun bt430 => (if bt430.2 = 0 then (w9_CheckParts.l0 k l0 a1 ([] : List (S23)) (l0.length : Int)) else ((w9_awake.f k).bind fun t432 => (some t432)))))
theorem w9_CheckParts.mono_l : ∀ k, (∀ y0 y1 y2 y3, LeO (w9_CheckParts.l0 k y0 y1 y2 y3) (w9_CheckParts.l0 (k + 1) y0 y1 y2 y3)) ∧ (∀ y0 y1 y2, LeO (w9_CheckParts.j1 k y0 y1 y2) (w9_CheckParts.j1 (k + 1) y0 y1 y2)) ∧ (∀ y0 y1 y2 y3 y4 y5 y6 y7 y8 y9, LeO (w9_CheckParts.j2 k y0 y1 y2 y3 y4 y5 y6 y7 y8 y9) (w9_CheckParts.j2 (k + 1) y0 y1 y2 y3 y4 y5 y6 y7 y8 y9)) ∧ (∀ y0 y1 y2 y3 y4 y5 y6, LeO (w9_CheckParts.j3 k y0 y1 y2 y3 y4 y5 y6) (w9_CheckParts.j3 (k + 1) y0 y1 y2 y3 y4 y5 y6))
 | 0 => ⟨fun _ _ _ _ r h => by simp [w9_CheckParts.l0] at h, fun _ _ _ r h => by simp [w9_CheckParts.j1] at h, fun _ _ _ _ _ _ _ _ _ _ r h => by simp [w9_CheckParts.j2] at h, fun _ _ _ _ _ _ _ r h => by simp [w9_CheckParts.j3] at h⟩
 | k + 1 => by
  obtain ⟨ih0, ih1, ih2, ih3⟩ := w9_CheckParts.mono_l k
  refine ⟨?_, ?_, ?_, ?_⟩
  ·
   intro y0 y1 y2 y3
   unfold w9_CheckParts.l0
   repeat' first
   | (with_reducible exact ih0 _ _ _ _)
   | (with_reducible exact ih1 _ _ _)
   | (with_reducible exact ih2 _ _ _ _ _ _ _ _ _ _)
   | (with_reducible exact ih3 _ _ _ _ _ _ _)
   | (with_reducible exact w9_awake.mono _)
   | (with_reducible exact w9_long.mono _ _)
   | (with_reducible exact LeO.refl _)
   | (with_reducible exact LeO.none _)
   | (with_reducible refine LeO.ite ?_ ?_)
   | (with_reducible refine LeO.bind ?_ (fun _ => ?_))
   | exact ih0 _ _ _ _
   | exact ih1 _ _ _
   | exact ih2 _ _ _ _ _ _ _ _ _ _
   | exact ih3 _ _ _ _ _ _ _
   | exact w9_awake.mono _
   | exact w9_long.mono _ _
   | exact LeO.none _
   | refine LeO.ite ?_ ?_
   | refine LeO.bind ?_ (fun _ => ?_)
  ·
   intro y0 y1 y2
   unfold w9_CheckParts.j1
   repeat' first
   | (with_reducible exact ih0 _ _ _ _)
   | (with_reducible exact ih1 _ _ _)
   | (with_reducible exact ih2 _ _ _ _ _ _ _ _ _ _)
   | (with_reducible exact ih3 _ _ _ _ _ _ _)
   | (with_reducible exact w9_awake.mono _)
   | (with_reducible exact w9_long.mono _ _)
   | (with_reducible exact LeO.refl _)
   | (with_reducible exact LeO.none _)
   | (with_reducible refine LeO.ite ?_ ?_)
   | (with_reducible refine LeO.bind ?_ (fun _ => ?_))
   | exact ih0 _ _ _ _
   | exact ih1 _ _ _
   | exact ih2 _ _ _ _ _ _ _ _ _ _
   | exact ih3 _ _ _ _ _ _ _
   | exact w9_awake.mono _
   | exact w9_long.mono _ _
   | exact LeO.none _
   | refine LeO.ite ?_ ?_
   | refine LeO.bind ?_ (fun _ => ?_)
  ·
   intro y0 y1 y2 y3 y4 y5 y6 y7 y8 y9
   unfold w9_CheckParts.j2
   repeat' first
   | (with_reducible exact ih0 _ _ _ _)
   | (with_reducible exact ih1 _ _ _)
   | (with_reducible exact ih2 _ _ _ _ _ _ _ _ _ _)
   | (with_reducible exact ih3 _ _ _ _ _ _ _)
   | (with_reducible exact w9_awake.mono _)
   | (with_reducible exact w9_long.mono _ _)
   | (with_reducible exact LeO.refl _)
   | (with_reducible exact LeO.none _)
   | (with_reducible refine LeO.ite ?_ ?_)
   | (with_reducible refine LeO.bind ?_ (fun _ => ?_))
   | exact ih0 _ _ _ _
   | exact ih1 _ _ _
   | exact ih2 _ _ _ _ _ _ _ _ _ _
   | exact ih3 _ _ _ _ _ _ _
   | exact w9_awake.mono _
   | exact w9_long.mono _ _
   | exact LeO.none _
   | refine LeO.ite ?_ ?_
   | refine LeO.bind ?_ (fun _ => ?_)
  ·
   intro y0 y1 y2 y3 y4 y5 y6
   unfold w9_CheckParts.j3
   repeat' first
   | (with_reducible exact ih0 _ _ _ _)
   | (with_reducible exact ih1 _ _ _)
   | (with_reducible exact ih2 _ _ _ _ _ _ _ _ _ _)
   | (with_reducible exact ih3 _ _ _ _ _ _ _)
   | (with_reducible exact w9_awake.mono _)
   | (with_reducible exact w9_long.mono _ _)
   | (with_reducible exact LeO.refl _)
   | (with_reducible exact LeO.none _)
   | (with_reducible refine LeO.ite ?_ ?_)
   | (with_reducible refine LeO.bind ?_ (fun _ => ?_))
   | exact ih0 _ _ _ _
   | exact ih1 _ _ _
   | exact ih2 _ _ _ _ _ _ _ _ _ _
   | exact ih3 _ _ _ _ _ _ _
   | exact w9_awake.mono _
   | exact w9_long.mono _ _
   | exact LeO.none _
   | refine LeO.ite ?_ ?_
   | refine LeO.bind ?_ (fun _ => ?_)
theorem w9_CheckParts.mono : ∀ a0 a1 k, LeO (w9_CheckParts.f k a0 a1) (w9_CheckParts.f (k + 1) a0 a1) := by
 intro a0 a1 k
 obtain ⟨ih0, ih1, ih2, ih3⟩ := w9_CheckParts.mono_l k
 unfold w9_CheckParts.f
 repeat' first
   | (with_reducible exact ih0 _ _ _ _)
   | (with_reducible exact ih1 _ _ _)
   | (with_reducible exact ih2 _ _ _ _ _ _ _ _ _ _)
   | (with_reducible exact ih3 _ _ _ _ _ _ _)
   | (with_reducible exact w9_awake.mono _)
   | (with_reducible exact w9_long.mono _ _)
   | (with_reducible exact LeO.refl _)
   | (with_reducible exact LeO.none _)
   | (with_reducible refine LeO.ite ?_ ?_)
   | (with_reducible refine LeO.bind ?_ (fun _ => ?_))
   | exact ih0 _ _ _ _
   | exact ih1 _ _ _
   | exact ih2 _ _ _ _ _ _ _ _ _ _
   | exact ih3 _ _ _ _ _ _ _
   | exact w9_awake.mono _
   | exact w9_long.mono _ _
   | exact LeO.none _
   | refine LeO.ite ?_ ?_
   | refine LeO.bind ?_ (fun _ => ?_)
def w9_CheckParts.T15 : Bool × List (List Nat × List Nat) := (true, [([], []), ([], []), ([], []), ([1, 2], [1, 2]), ([0, 3], [0, 3]), ([], []), ([], []), ([6], [6]), ([5, 7], [5, 7]), ([4, 8, 4], [4, 8]), ([9, 9, 0, 1, 2, 3, 4, 5, 6, 7, 8, 9], [9])])
def w9_CheckParts.B15 : List Nat := [0, 0, 0, 6, 15, 0, 0, 64, 224, 511, 1023]
theorem w9_CheckParts.tab15 : rtab .any (opsOf Try.f6 15) = w9_CheckParts.T15 := by kernel_rfl
theorem w9_CheckParts.bits15 : waitsOk w9_CheckParts.T15.2 w9_CheckParts.B15 = true := by kernel_rfl
def w9_CheckParts.T19 : Bool × List (List Nat × List Nat) := (true, [([], []), ([0], [0]), ([1], [1]), ([2, 1], [1, 2]), ([3, 1, 1], [1, 3]), ([4], [4]), ([5, 4], [4, 5]), ([4, 6, 1], [1, 4, 6]), ([7, 4, 1], [1, 7]), ([8], [8]), ([9, 8, 8], [8, 9]), ([8], [8]), ([11, 8], [8, 11]), ([10, 12, 8], [8, 10, 12]), ([8, 13, 1], [1, 8, 13]), ([1, 14], [1, 14]), ([15, 10], [15]), ([16], [16]), ([17, 16], [16, 17]), ([18, 16, 16], [16, 18]), ([19], [19]), ([20, 19], [19, 20]), ([19, 21, 16], [16, 19, 21]), ([16, 22], [16, 22])])
def w9_CheckParts.B19 : List Nat := [0, 1, 3, 7, 15, 31, 63, 127, 255, 511, 1023, 511, 2559, 8191, 16383, 32767, 65535, 131071, 262143, 524287, 1048575, 2097151, 4194303, 8388607]
theorem w9_CheckParts.tab19 : rtab .any (opsOf Try.f6 19) = w9_CheckParts.T19 := by kernel_rfl
theorem w9_CheckParts.bits19 : waitsOk w9_CheckParts.T19.2 w9_CheckParts.B19 = true := by kernel_rfl
def w9_CheckParts.T21 : Bool × List (List Nat × List Nat) := (true, [([], []), ([], []), ([0, 1], [0, 1]), ([], []), ([3], [3]), ([2, 4, 2], [2, 4]), ([5, 5], [5]), ([6], [6]), ([7], [7]), ([7], [7]), ([8, 6, 0, 1, 2, 3, 4, 5, 6, 7, 8], [8]), ([9, 10, 0, 1, 2, 3, 4, 5, 6, 7, 8, 9, 10], [9])])
def w9_CheckParts.B21 : List Nat := [0, 0, 3, 0, 8, 31, 63, 127, 255, 255, 511, 2047]
theorem w9_CheckParts.tab21 : rtab .any (opsOf Try.f6 21) = w9_CheckParts.T21 := by kernel_rfl
theorem w9_CheckParts.bits21 : waitsOk w9_CheckParts.T21.2 w9_CheckParts.B21 = true := by kernel_rfl
set_option maxHeartbeats 8000000 in
set_option maxRecDepth 100000 in
theorem w9_CheckParts.calls (k : Nat) (A0 : Option Addr) (c0 : Nat) (l0 : List (S23)) (a1 : Int) (r : Bool) (w : World) (hr0 : Kd.C k23 w A0 l0.length l0) (hc0 : l0.length ≤ c0) (h : w9_CheckParts.f k l0 a1 = some r) (hT0 : r = true) :
  Calls Try.prog 6 #[.slice A0 l0.length c0, .int .i64 a1] w fun e w' => e = .returned (.bool r) ∧ Below w.heap.size w w' := by
 have hu23 := Try.underlying23
 have HR0 := aK hr0
 have HC0 := aK hc0
 clear hr0 hc0
 have HB := aK (Below.refl w.heap.size w)
 have H : ((w9_long.f k l0).bind fun t428 => (if t428 = true then ((w9_awake.f k).bind fun t429 => (some t429)) else ((check_Table.f l0).bind fun bt430 => (if bt430.2 = 0 then (w9_CheckParts.l0 k l0 a1 ([] : List (S23)) (l0.length : Int)) else ((w9_awake.f k).bind fun t432 => (some t432)))))) = some r := h
 clear h
 have hT := aK hT0
 clear hT0
 replace H := Option.bind_eq_some_iff.mp H
 obtain ⟨t428, A30, H⟩ := H
 try dsimp only at H
 have A3 := aK A30
 clear A30
 by_cases c4 : t428 = true
 ·
  subst c4
  have H1 : ((w9_awake.f k).bind fun t429 => (some t429)) = some r := by rw [if_pos rfl] at H; exact H
  clear H
  have H := H1
  clear H1
  replace H := Option.bind_eq_some_iff.mp H
  obtain ⟨t429, A50, H⟩ := H
  replace H : (some t429) = some r := H
  have A5 := aK A50
  clear A50
  obtain rfl := Option.some.inj H
  go_enter Try.func6, Try.ntmps6
  go_wp2_with (first | ((with_reducible refine gate_callee (f := 7) rfl ?_); refine goesL_ (some 20) rfl rfl Try.func7 (by kernel_rfl) rfl #[.slice A0 l0.length c0] rfl (by (try simp only [List.map_toArray, List.map_cons, List.map_nil]); first | done | rfl | (simp only [List.length_drop, List.length_take]; rfl)) ?_; (with_reducible refine (w9_long.calls k _ _ l0 true _ ?side1 ?side2 A3.out).mono ?_); (case side1 => repeat (first | exact HR0.out | (with_reducible refine Kd.C_alloc ?_ _) | (with_reducible refine Kd.C_drewN ?_ _) | (with_reducible refine Kd.C_drew ?_))); (case side2 => exact HC0.out); rintro e w' ⟨rfl, ⟨nd, rfl⟩⟩; refine ⟨_, rfl, ?_⟩) | ((with_reducible refine gate_callee (f := 8) rfl ?_); refine goesL_ (some 21) rfl rfl Try.func8 (by kernel_rfl) rfl #[] rfl (by (try simp only [List.map_toArray, List.map_cons, List.map_nil]); first | done | rfl | (simp only [List.length_drop, List.length_take]; rfl)) ?_; (with_reducible refine (w9_awake.calls k  t429 _ A5.out).mono ?_); rintro e w6 ⟨rfl, hb⟩; refine ⟨_, rfl, ?_⟩; have n0_ := aK (bSp (by repeat (first | (with_reducible first | exact HB.out | apply bAl | apply pbD | apply bD1) | exact HB.out)) hb); clear HB; have HB := n0_; clear n0_; (try clear hb); (try clear hb2); (try clear hk); (try clear hi)))
  go_ret
  exact ⟨by first | rfl | (simp [eWn, eWs] <;> rfl) | (simp [*, eWn, eWs] <;> rfl), by repeat (first | (with_reducible first | exact HB.out | apply bAl | apply pbD | apply bD1) | exact HB.out)⟩
 ·
  replace c4 := Bool.eq_false_iff.mpr c4
  subst c4
  have H1 : ((check_Table.f l0).bind fun bt430 => (if bt430.2 = 0 then (w9_CheckParts.l0 k l0 a1 ([] : List (S23)) (l0.length : Int)) else ((w9_awake.f k).bind fun t432 => (some t432)))) = some r := by rw [if_neg (show ¬ (false = true) by decide)] at H; exact H
  clear H
  have H := H1
  clear H1
  replace H := Option.bind_eq_some_iff.mp H
  obtain ⟨⟨t430, t431⟩, A70, H⟩ := H
  try dsimp only at H
  have A7 := aK A70
  clear A70
  by_cases c8 : t431 = 0
  ·
   rw [if_pos c8] at H
   have c8b0 : (t431 == 0) = true := beq_iff_eq.mpr c8
   have c8b1 : (t431 != 0) = false := bne_eq_false_iff_eq.mpr c8
   clear c8
   have H' := aK H
   clear H
   go_enter Try.func6, Try.ntmps6
   go_wp2_with (first | ((with_reducible refine gate_callee (f := 7) rfl ?_); refine goesL_ (some 20) rfl rfl Try.func7 (by kernel_rfl) rfl #[.slice A0 l0.length c0] rfl (by (try simp only [List.map_toArray, List.map_cons, List.map_nil]); first | done | rfl | (simp only [List.length_drop, List.length_take]; rfl)) ?_; (with_reducible refine (w9_long.calls k _ _ l0 false _ ?side1 ?side2 A3.out).mono ?_); (case side1 => repeat (first | exact HR0.out | (with_reducible refine Kd.C_alloc ?_ _) | (with_reducible refine Kd.C_drewN ?_ _) | (with_reducible refine Kd.C_drew ?_))); (case side2 => exact HC0.out); rintro e w' ⟨rfl, ⟨nd, rfl⟩⟩; refine ⟨_, rfl, ?_⟩) | ((with_reducible refine gate_callee (f := 15) rfl ?_); refine goesL_ (some 24) rfl rfl Try.func15 (by kernel_rfl) rfl #[.slice A0 l0.length c0] rfl (by (try simp only [List.map_toArray, List.map_cons, List.map_nil]); first | done | rfl | (simp only [List.length_drop, List.length_take]; rfl)) ?_; (with_reducible refine (check_Table.calls _ _ l0 t430 t431 _ ?side1 ?side2 A7.out).mono ?_); (case side1 => repeat (first | exact HR0.out | (with_reducible refine Kd.C_alloc ?_ _) | (with_reducible refine Kd.C_drewN ?_ _) | (with_reducible refine Kd.C_drew ?_))); (case side2 => exact HC0.out); rintro e w9 ⟨rfl, hb⟩; refine ⟨_, rfl, ?_⟩; have n0_ := aK (bSp (by repeat (first | (with_reducible first | exact HB.out | apply bAl | apply pbD | apply bD1) | exact HB.out)) hb); clear HB; have HB := n0_; clear n0_; (try clear hb); (try clear hb2); (try clear hk); (try clear hi)))
   go_loopg [7, 8] k (fun kq v7 v8 w' => ∃ (x7_1 : List (S23)) (x8_1 : Int), v8 = .int .i64 x8_1 ∧ Aside0 (w9_CheckParts.l0 kq l0 a1 x7_1 x8_1 = some r) ∧ Aside0 (kq ≤ k) ∧ Aside0 (Kd.R k23 23 w' w.heap.size (fun _ => True) v7 x7_1) ∧ Aside0 (Below w.heap.size w w'))
   case atStart => exact ⟨(([] : List (S23))), ((l0.length : Int)), (by first | rfl | (simp; done) | (simp [*]; done)), H', ⟨Nat.le_refl _⟩, ⟨by first | exact Kd.R_nil _ _ _ _ _ | exact Kd.N_nil _ _ _ _ _ | exact Kd.V_nil _ _ _ _ _ | exact Kd.Q_nil _ _ _ _ _ | exact Kd.S_nil _ _ _ _ _⟩, ⟨by repeat (first | (with_reducible first | exact HB.out | apply bAl | apply pbD | apply bD1) | exact HB.out)⟩⟩
   case round =>
    clear H'
    try clear c1
    try clear p2
    try clear c4
    try clear c6
    try clear c7
    try clear c8
    try clear c8b0
    try clear c8b1
    obtain ⟨x7_1, x8_1, rfl, HA, HK1, HO_7, HB⟩ := hrel
    cases gk with
    | zero => exact absurd HA.out (by simp [w9_CheckParts.l0])
    | succ k1 =>
     have H := HA.out
     clear HA
     simp only [w9_CheckParts.l0] at H
     by_cases c10 : x8_1 > 0
     ·
      rw [if_pos c10] at H
      have c10b0 : decide (0 < x8_1) = true := decide_eq_true c10
      clear c10
      obtain ⟨ji11, hji11⟩ : ∃ j_ : Int, (wrap64 (x8_1 - 1)) = j_ := ⟨_, rfl⟩
      replace H : (if 0 ≤ (ji11) then (if (ji11) < (l0.length : Int) then ((some (([(⟨(rd_T23 l0 (ji11)).f0, (rd_T23 l0 (ji11)).f1, (rd_T23 l0 (ji11)).f2, (rd_T23 l0 (ji11)).f3, (rd_T23 l0 (ji11)).f4⟩ : S23)] : List (S23)) : List (S23))).bind fun y434 => (if x7_1.length + y434.length < 2513169434916 then (w9_CheckParts.l0 k1 l0 a1 (x7_1 ++ y434) ji11) else (none))) else (none)) else (none)) = some r := by first | (rw [hji11] at H; exact H) | (simp only [hji11] at H ⊢; exact H)
      have hji11w : (IntKind.i64.wrap (x8_1 - 1)) = ji11 := (i64_w _).trans hji11
      by_cases c12 : 0 ≤ (ji11)
      ·
       rw [if_pos c12] at H
       have c12b0 : decide (0 ≤ (ji11)) = true := decide_eq_true c12
       clear c12
       by_cases c13 : (ji11) < (l0.length : Int)
       ·
        rw [if_pos c13] at H
        have c13b0 : decide ((ji11) < (l0.length : Int)) = true := decide_eq_true c13
        clear c13
        obtain ⟨y434, hy434⟩ : ∃ y_ : List (S23), y_ = (([(⟨(rd_T23 l0 (ji11)).f0, (rd_T23 l0 (ji11)).f1, (rd_T23 l0 (ji11)).f2, (rd_T23 l0 (ji11)).f3, (rd_T23 l0 (ji11)).f4⟩ : S23)] : List (S23))) := ⟨_, rfl⟩
        replace H : (if x7_1.length + y434.length < 2513169434916 then (w9_CheckParts.l0 k1 l0 a1 (x7_1 ++ y434) ji11) else (none)) = some r := by first | (rw [hy434]; with_reducible exact H) | (have H2_ := (Option.bind_some _ _).symm.trans H; rw [hy434]; with_reducible exact H2_) | (have H2_ := (Option.bind_some _ _).symm.trans H; with_reducible exact H2_) | with_reducible exact H | (rw [hy434]; exact H) | exact H
        have Ny434 := aK hy434
        clear hy434
        by_cases c14 : x7_1.length + y434.length < 2513169434916
        ·
         rw [if_pos c14] at H
         have LMc14 := aK c14
         clear c14
         obtain ⟨y437, hy437⟩ : ∃ y_ : List (S23), y_ = (x7_1 ++ y434) := ⟨_, rfl⟩
         replace H : (w9_CheckParts.l0 k1 l0 a1 y437 ji11) = some r := by first | (rw [hy437]; with_reducible exact H) | (have H2_ := (Option.bind_some _ _).symm.trans H; rw [hy437]; with_reducible exact H2_) | (have H2_ := (Option.bind_some _ _).symm.trans H; with_reducible exact H2_) | with_reducible exact H | (rw [hy437]; exact H) | exact H
         have Ny437 := aK hy437
         clear hy437
         have H' := aK H
         clear H
         have p433 : 0 ≤ ((ji11) : Int) := odT (by first | (with_reducible assumption) | assumption)
         have q433 : (ji11) < (l0.length : Int) := odT (by first | (with_reducible assumption) | assumption)
         obtain ⟨ad433, e433, hx433_0, hx433_1, hx433_2, hx433_3, hx433_4⟩ := at_T23 HR0.out (ji11) p433 q433
         cases e433
         replace hx433_0 := (HB.out.cell (World.block_lt_of_cell? w _ hx433_0)).trans hx433_0
         replace hx433_1 := (HB.out.cell (World.block_lt_of_cell? w _ hx433_1)).trans hx433_1
         replace hx433_2 := (HB.out.cell (World.block_lt_of_cell? w _ hx433_2)).trans hx433_2
         replace hx433_3 := (HB.out.cell (World.block_lt_of_cell? w _ hx433_3)).trans hx433_3
         replace hx433_4 := (HB.out.cell (World.block_lt_of_cell? w _ hx433_4)).trans hx433_4
         replace p433 := eq_true p433
         replace q433 := eq_true q433
         go_wp2_with (first | ((with_reducible refine gate_dst (N := 42) rfl ?_); (try (refine gate_guard (by rfl) ?_; dsimp only)); refine Kd.R_lit k23 _ 23 ?hg (N := 42) ?hd (xs := ([(⟨(rd_T23 l0 (ji11)).f0, (rd_T23 l0 (ji11)).f1, (rd_T23 l0 (ji11)).f2, (rd_T23 l0 (ji11)).f3, (rd_T23 l0 (ji11)).f4⟩ : S23)] : List (S23))) (inner := [.int .i64 ((rd_T23 l0 (ji11)).f0), .string ((rd_T23 l0 (ji11)).f1), .string ((rd_T23 l0 (ji11)).f2), .int .i64 ((rd_T23 l0 (ji11)).f3), .int .i64 ((rd_T23 l0 (ji11)).f4)]) (ok := fun _ => True) (okp := fun _ => True) ?hr ?hp (fun _ hk => hk) trivial (Below.refl _ _) (Nat.le_refl _) (by simp) ?_; (case hd => rfl); (case hg => rfl); (case hr => first | (go_simp; done) | (go_simp; rfl)); (case hp => exact (Reps.c5 (show Kd.M k23 _ _ _ (⟨(rd_T23 l0 (ji11)).f0, (rd_T23 l0 (ji11)).f1, (rd_T23 l0 (ji11)).f2, (rd_T23 l0 (ji11)).f3, (rd_T23 l0 (ji11)).f4⟩ : S23) [.int .i64 ((rd_T23 l0 (ji11)).f0), .string ((rd_T23 l0 (ji11)).f1), .string ((rd_T23 l0 (ji11)).f2), .int .i64 ((rd_T23 l0 (ji11)).f3), .int .i64 ((rd_T23 l0 (ji11)).f4)] from (k23_mkM _ _ _ (⟨(rd_T23 l0 (ji11)).f0, (rd_T23 l0 (ji11)).f1, (rd_T23 l0 (ji11)).f2, (rd_T23 l0 (ji11)).f3, (rd_T23 l0 (ji11)).f4⟩ : S23) )) (Reps.none _ _))); intro v435 w15 ho16 hb hg_ hnew_; clear hg_ hnew_; (first | rw [← Ny434.out] at ho16 | (simp only [Int.reduceToNat] at ho16; rw [← Ny434.out] at ho16)); have n0_ := aK (Kd.R_elder' (by (with_reducible repeat (first | apply Kd.R_alloc | apply Kd.R_drewN | apply Kd.R_drew)); exact HO_7.out) (Kd.R_base ho16) hb); have n1_ := aK (Kd.R_lower (Kd.R_new' ho16 (Kd.R_lt (by (with_reducible repeat (first | apply Kd.R_alloc | apply Kd.R_drewN | apply Kd.R_drew)); exact HO_7.out))) (bSz (by repeat (first | (with_reducible first | exact HB.out | apply bAl | apply pbD | apply bD1) | exact HB.out)))); have n2_ := aK (bSp (by repeat (first | (with_reducible first | exact HB.out | apply bAl | apply pbD | apply bD1) | exact HB.out)) hb); clear HO_7; clear HB; have HO_7 := n0_; have HO436 := n1_; have HB := n2_; clear n0_ n1_ n2_; clear hb ho16; obtain ⟨Ao18, co18, eo18⟩ := Kd.R_slice HO436.out; subst eo18) | ((with_reducible refine gate_builtin (b := .append) (xs := #[.tmp 36, .tmp 42]) rfl ?_); (try (refine gate_guard (by rfl) ?_; dsimp only)); at_builtin; refine Kd.R_append_rows k23 (w0 := w) w.heap.size rfl (.tmp 36) (.tmp 42) 25 23 (.agg #[(.int .i64 0), (.string ⟨#[]⟩), (.string ⟨#[]⟩), (.int .i64 0), (.int .i64 0)]) 56 rfl Try.underlying25 info23 rfl (by decide) (by omega) u7 x7_1 y434 _ _ _ (fun k_ => some k_ ≠ (.slice Ao18 y434.length co18 : Value).ownBlock) (fun _ => False) rfl rfl ?aO ?aR (fun _ _ h => h) (fun _ h => h.elim) ?aF ?aB ?aS ?aL ?_; (case aR => repeat (first | exact (Kd.R_reads' HO436.out).2.2 | (with_reducible refine Kd.C_alloc ?_ _) | (with_reducible refine Kd.C_drewN ?_ _) | (with_reducible refine Kd.C_drew ?_))); (case aB => exact (by repeat (first | (with_reducible first | exact HB.out | apply bAl | apply pbD | apply bD1) | exact HB.out))); (case aF => exact (fun k_ hk => Kd.fresh' (Kd.R_lt (by (with_reducible repeat (first | apply Kd.R_alloc | apply Kd.R_drewN | apply Kd.R_drew)); exact HO436.out)) k_ hk)); (case aO => exact (by (with_reducible repeat (first | apply Kd.R_alloc | apply Kd.R_drewN | apply Kd.R_drew)); exact Kd.R_mono HO_7.out (fun _ hk => hk.2))); (case aS => exact (bSz (by repeat (first | (with_reducible first | exact HB.out | apply bAl | apply pbD | apply bD1) | exact HB.out)))); (case aL => have := LMc14.out; omega); intro v438 w17 ho hb hg hat; rw [← Ny437.out] at ho; have n0_ := aK (Kd.R_after (ok := (fun _ => True)) (by (with_reducible repeat (first | apply Kd.R_alloc | apply Kd.R_drewN | apply Kd.R_drew)); exact HO436.out) hg hat); have n1_ := aK (hb); have n2_ := aK (ho); clear HO436; clear HB; clear HO_7; have HO436 := n0_; have HB := n1_; have HO439 := n2_; clear n0_ n1_ n2_; clear ho hb hg hat))
         go_roundg k1
         case measure => have := HK1.out; omega
         case rel => exact ⟨(y437), (ji11), (by first | rfl | (simp; done) | (simp only [← hji11] <;> (first | rfl | simp)) | (simp [*]; done)), H', ⟨by have := HK1.out; omega⟩, ⟨by (with_reducible repeat (first | apply Kd.R_alloc | apply Kd.R_drewN | apply Kd.R_drew)); exact Kd.R_mono HO439.out (fun _ hk => trivial)⟩, ⟨by repeat (first | (with_reducible first | exact HB.out | apply bAl | apply pbD | apply bD1) | exact HB.out)⟩⟩
        ·
         rw [if_neg c14] at H
         exact absurd H (by simp)
       ·
        rw [if_neg c13] at H
        exact absurd H (by simp)
      ·
       rw [if_neg c12] at H
       exact absurd H (by simp)
     ·
      rw [if_neg c10] at H
      have c10b0 : decide (0 < x8_1) = false := decide_eq_false c10
      clear c10
      replace H := Option.bind_eq_some_iff.mp H
      obtain ⟨⟨t440, t441⟩, A190, H⟩ := H
      try dsimp only at H
      have A19 := aK A190
      clear A190
      have HC20 := aK H
      clear H
      obtain ⟨Ao21, co21, eo21⟩ := Kd.R_slice HO_7.out
      subst eo21
      go_upto_region 12 with (first | ((with_reducible refine gate_callee (f := 15) rfl ?_); refine goesL_ (some 46) rfl rfl Try.func15 (by kernel_rfl) rfl #[.slice Ao21 x7_1.length co21] rfl (by (try simp only [List.map_toArray, List.map_cons, List.map_nil]); first | done | rfl | (simp only [List.length_drop, List.length_take]; rfl)) ?_; (with_reducible refine (check_Table.calls _ _ x7_1 t440 t441 _ ?side1 ?side2 A19.out).mono ?_); (case side1 => repeat (first | exact (Kd.R_reads' HO_7.out).2.2 | (with_reducible refine Kd.C_alloc ?_ _) | (with_reducible refine Kd.C_drewN ?_ _) | (with_reducible refine Kd.C_drew ?_))); (case side2 => exact (Kd.R_reads' HO_7.out).2.1); rintro e w22 ⟨rfl, hb⟩; refine ⟨_, rfl, ?_⟩; have n0_ := aK (Kd.R_below (by (with_reducible repeat (first | apply Kd.R_alloc | apply Kd.R_drewN | apply Kd.R_drew)); exact HO_7.out) hb); have n1_ := aK (bSp (by repeat (first | (with_reducible first | exact HB.out | apply bAl | apply pbD | apply bD1) | exact HB.out)) hb); clear HO_7; clear HB; have HO_7 := n0_; have HB := n1_; clear n0_ n1_; (try clear hb); (try clear hb2); (try clear hk); (try clear hi)))
      (try simp only [Act.put, qSa, qS0, qS1])
      go_cut [55] (fun v55 wc => ∃ (kq : Nat) (x55_19 : Bool), v55 = .bool x55_19 ∧ Aside0 (w9_CheckParts.j1 kq l0 a1 x55_19 = some r) ∧ Aside0 (kq ≤ k1) ∧ Aside0 (Below w.heap.size w wc))
      case first =>
       have H := HC20.out
       clear HC20
       by_cases c23 : t441 = 0
       ·
        rw [if_pos c23] at H
        have c23b0 : (t441 == 0) = true := beq_iff_eq.mpr c23
        have c23b1 : (t441 != 0) = false := bne_eq_false_iff_eq.mpr c23
        clear c23
        (first | rw [c23b0] | (simp only [i64_w, i32_w]; rw [c23b0]) | skip)
        have H' := aK H
        clear H
        go_wp2
        go_meet
        case rel => exact ⟨_, (((l0.length : Int) == 0)), (by first | rfl | (simp; done) | (simp [*]; done)), H', ⟨by have := HK1.out; first | omega | exact Nat.le_refl _⟩, ⟨by repeat (first | (with_reducible first | exact HB.out | apply bAl | apply pbD | apply bD1) | exact HB.out)⟩⟩
       ·
        rw [if_neg c23] at H
        have c23b0 : (t441 == 0) = false := beq_eq_false_iff_ne.mpr c23
        have c23b1 : (t441 != 0) = true := bne_iff_ne.mpr c23
        (first | rw [c23b0] | (simp only [i64_w, i32_w]; rw [c23b0]) | skip)
        have H' := aK H
        clear H
        go_wp2
        go_meet
        case rel => exact ⟨_, (true), (by first | rfl | (simp; done) | (simp [*]; done)), H', ⟨by have := HK1.out; first | omega | exact Nat.le_refl _⟩, ⟨by repeat (first | (with_reducible first | exact HB.out | apply bAl | apply pbD | apply bD1) | exact HB.out)⟩⟩
      case rest =>
       clear HC20
       try clear c1
       try clear c2
       try clear p2
       try clear c4
       try clear p4
       try clear q4
       try clear hx4
       try clear c5
       try clear c6
       try clear p6
       try clear c7
       try clear c8
       try clear c8b0
       try clear c8b1
       try clear c10
       try clear c10b0
       try clear c12
       try clear c12b0
       try clear c13
       try clear c13b0
       try clear c14
       try clear c15
       try clear c23
       try clear c23b0
       try clear c23b1
       try clear hx433_0
       try clear hx433_1
       try clear hx433_2
       try clear hx433_3
       try clear hx433_4
       try clear p2
       try clear p433
       try clear q433
       obtain ⟨kq, x55_19, rfl, HA, HJ19, HB⟩ := hcut
       cases kq with
       | zero => exact absurd HA.out (by simp [w9_CheckParts.j1])
       | succ kj19 =>
        have H := HA.out
        clear HA
        simp only [w9_CheckParts.j1] at H
        by_cases c24 : x55_19 = true
        ·
         subst c24
         have H1 : (some false) = some r := by rw [if_pos rfl] at H; exact H
         clear H
         have H := H1
         clear H1
         exact absurd ((Option.some.inj H).trans hT.out) (by decide)
        ·
         replace c24 := Bool.eq_false_iff.mpr c24
         subst c24
         have H1 : (if (l0.length : Int) = 0 then (none) else ((some (([] : List (S23)) : List (S23))).bind fun y442 => (if 0 ≤ (Int.tmod (Go.bits .and .i64 a1 65535) (l0.length : Int)) then (if (Int.tmod (Go.bits .and .i64 a1 65535) (l0.length : Int)) ≤ (l0.length : Int) then ((some (l0.take ((Int.tmod (Go.bits .and .i64 a1 65535) (l0.length : Int)) : Int).toNat : List (S23))).bind fun y445 => (if y442.length + y445.length < 2513169434916 then ((some (y442 ++ y445 : List (S23))).bind fun y449 => (if 0 ≤ (wrap64 ((Int.tmod (Go.bits .and .i64 a1 65535) (l0.length : Int)) + 1)) then (if (wrap64 ((Int.tmod (Go.bits .and .i64 a1 65535) (l0.length : Int)) + 1)) ≤ (l0.length : Int) then ((some (l0.drop ((wrap64 ((Int.tmod (Go.bits .and .i64 a1 65535) (l0.length : Int)) + 1)) : Int).toNat : List (S23))).bind fun y452 => (if y449.length + y452.length < 2513169434916 then ((some (y449 ++ y452 : List (S23))).bind fun y456 => ((check_Table.f y456).bind fun bt459 => (if (Int.tmod (Go.bits .and .i64 a1 65535) (l0.length : Int)) < (l0.length : Int) then (if ((rd_T23 l0 (Int.tmod (Go.bits .and .i64 a1 65535) (l0.length : Int))).f0) ≥ 6 then (w9_CheckParts.j2 kj19 l0 y456 bt459.1 bt459.2 true ((rd_T23 l0 (Int.tmod (Go.bits .and .i64 a1 65535) (l0.length : Int))).f0) ((rd_T23 l0 (Int.tmod (Go.bits .and .i64 a1 65535) (l0.length : Int))).f1) ((rd_T23 l0 (Int.tmod (Go.bits .and .i64 a1 65535) (l0.length : Int))).f2) ((rd_T23 l0 (Int.tmod (Go.bits .and .i64 a1 65535) (l0.length : Int))).f3) ((rd_T23 l0 (Int.tmod (Go.bits .and .i64 a1 65535) (l0.length : Int))).f4)) else (if ((rd_T23 l0 (Int.tmod (Go.bits .and .i64 a1 65535) (l0.length : Int))).f0) = 1 then (w9_CheckParts.j2 kj19 l0 y456 bt459.1 bt459.2 ((((rd_T23 l0 (Int.tmod (Go.bits .and .i64 a1 65535) (l0.length : Int))).f1).size : Int) == 1) ((rd_T23 l0 (Int.tmod (Go.bits .and .i64 a1 65535) (l0.length : Int))).f0) ((rd_T23 l0 (Int.tmod (Go.bits .and .i64 a1 65535) (l0.length : Int))).f1) ((rd_T23 l0 (Int.tmod (Go.bits .and .i64 a1 65535) (l0.length : Int))).f2) ((rd_T23 l0 (Int.tmod (Go.bits .and .i64 a1 65535) (l0.length : Int))).f3) ((rd_T23 l0 (Int.tmod (Go.bits .and .i64 a1 65535) (l0.length : Int))).f4)) else (w9_CheckParts.j2 kj19 l0 y456 bt459.1 bt459.2 false ((rd_T23 l0 (Int.tmod (Go.bits .and .i64 a1 65535) (l0.length : Int))).f0) ((rd_T23 l0 (Int.tmod (Go.bits .and .i64 a1 65535) (l0.length : Int))).f1) ((rd_T23 l0 (Int.tmod (Go.bits .and .i64 a1 65535) (l0.length : Int))).f2) ((rd_T23 l0 (Int.tmod (Go.bits .and .i64 a1 65535) (l0.length : Int))).f3) ((rd_T23 l0 (Int.tmod (Go.bits .and .i64 a1 65535) (l0.length : Int))).f4)))) else (none)))) else (none))) else (none)) else (none))) else (none))) else (none)) else (none)))) = some r := by rw [if_neg (show ¬ (false = true) by decide)] at H; exact H
         clear H
         have H := H1
         clear H1
         by_cases c25 : (l0.length : Int) = 0
         ·
          rw [if_pos c25] at H
          exact absurd H (by simp)
         ·
          rw [if_neg c25] at H
          have c25b0 : ((l0.length : Int) == 0) = false := beq_eq_false_iff_ne.mpr c25
          have c25b1 : ((l0.length : Int) != 0) = true := bne_iff_ne.mpr c25
          have c25b2 : ¬ (l0 = []) := fun h_ => c25 (by rw [h_]; rfl)
          obtain ⟨y442, hy442⟩ : ∃ y_ : List (S23), y_ = (([] : List (S23))) := ⟨_, rfl⟩
          replace H : (if 0 ≤ (Int.tmod (Go.bits .and .i64 a1 65535) (l0.length : Int)) then (if (Int.tmod (Go.bits .and .i64 a1 65535) (l0.length : Int)) ≤ (l0.length : Int) then ((some (l0.take ((Int.tmod (Go.bits .and .i64 a1 65535) (l0.length : Int)) : Int).toNat : List (S23))).bind fun y445 => (if y442.length + y445.length < 2513169434916 then ((some (y442 ++ y445 : List (S23))).bind fun y449 => (if 0 ≤ (wrap64 ((Int.tmod (Go.bits .and .i64 a1 65535) (l0.length : Int)) + 1)) then (if (wrap64 ((Int.tmod (Go.bits .and .i64 a1 65535) (l0.length : Int)) + 1)) ≤ (l0.length : Int) then ((some (l0.drop ((wrap64 ((Int.tmod (Go.bits .and .i64 a1 65535) (l0.length : Int)) + 1)) : Int).toNat : List (S23))).bind fun y452 => (if y449.length + y452.length < 2513169434916 then ((some (y449 ++ y452 : List (S23))).bind fun y456 => ((check_Table.f y456).bind fun bt459 => (if (Int.tmod (Go.bits .and .i64 a1 65535) (l0.length : Int)) < (l0.length : Int) then (if ((rd_T23 l0 (Int.tmod (Go.bits .and .i64 a1 65535) (l0.length : Int))).f0) ≥ 6 then (w9_CheckParts.j2 kj19 l0 y456 bt459.1 bt459.2 true ((rd_T23 l0 (Int.tmod (Go.bits .and .i64 a1 65535) (l0.length : Int))).f0) ((rd_T23 l0 (Int.tmod (Go.bits .and .i64 a1 65535) (l0.length : Int))).f1) ((rd_T23 l0 (Int.tmod (Go.bits .and .i64 a1 65535) (l0.length : Int))).f2) ((rd_T23 l0 (Int.tmod (Go.bits .and .i64 a1 65535) (l0.length : Int))).f3) ((rd_T23 l0 (Int.tmod (Go.bits .and .i64 a1 65535) (l0.length : Int))).f4)) else (if ((rd_T23 l0 (Int.tmod (Go.bits .and .i64 a1 65535) (l0.length : Int))).f0) = 1 then (w9_CheckParts.j2 kj19 l0 y456 bt459.1 bt459.2 ((((rd_T23 l0 (Int.tmod (Go.bits .and .i64 a1 65535) (l0.length : Int))).f1).size : Int) == 1) ((rd_T23 l0 (Int.tmod (Go.bits .and .i64 a1 65535) (l0.length : Int))).f0) ((rd_T23 l0 (Int.tmod (Go.bits .and .i64 a1 65535) (l0.length : Int))).f1) ((rd_T23 l0 (Int.tmod (Go.bits .and .i64 a1 65535) (l0.length : Int))).f2) ((rd_T23 l0 (Int.tmod (Go.bits .and .i64 a1 65535) (l0.length : Int))).f3) ((rd_T23 l0 (Int.tmod (Go.bits .and .i64 a1 65535) (l0.length : Int))).f4)) else (w9_CheckParts.j2 kj19 l0 y456 bt459.1 bt459.2 false ((rd_T23 l0 (Int.tmod (Go.bits .and .i64 a1 65535) (l0.length : Int))).f0) ((rd_T23 l0 (Int.tmod (Go.bits .and .i64 a1 65535) (l0.length : Int))).f1) ((rd_T23 l0 (Int.tmod (Go.bits .and .i64 a1 65535) (l0.length : Int))).f2) ((rd_T23 l0 (Int.tmod (Go.bits .and .i64 a1 65535) (l0.length : Int))).f3) ((rd_T23 l0 (Int.tmod (Go.bits .and .i64 a1 65535) (l0.length : Int))).f4)))) else (none)))) else (none))) else (none)) else (none))) else (none))) else (none)) else (none)) = some r := by first | (rw [hy442]; with_reducible exact H) | (have H2_ := (Option.bind_some _ _).symm.trans H; rw [hy442]; with_reducible exact H2_) | (have H2_ := (Option.bind_some _ _).symm.trans H; with_reducible exact H2_) | with_reducible exact H | (rw [hy442]; exact H) | exact H
          have Ny442 := aK hy442
          clear hy442
          obtain ⟨ji26, hji26⟩ : ∃ j_ : Int, (Int.tmod (Go.bits .and .i64 a1 65535) (l0.length : Int)) = j_ := ⟨_, rfl⟩
          replace H : (if 0 ≤ (ji26) then (if (ji26) ≤ (l0.length : Int) then ((some (l0.take ((ji26) : Int).toNat : List (S23))).bind fun y445 => (if y442.length + y445.length < 2513169434916 then ((some (y442 ++ y445 : List (S23))).bind fun y449 => (if 0 ≤ (wrap64 ((ji26) + 1)) then (if (wrap64 ((ji26) + 1)) ≤ (l0.length : Int) then ((some (l0.drop ((wrap64 ((ji26) + 1)) : Int).toNat : List (S23))).bind fun y452 => (if y449.length + y452.length < 2513169434916 then ((some (y449 ++ y452 : List (S23))).bind fun y456 => ((check_Table.f y456).bind fun bt459 => (if (ji26) < (l0.length : Int) then (if ((rd_T23 l0 (ji26)).f0) ≥ 6 then (w9_CheckParts.j2 kj19 l0 y456 bt459.1 bt459.2 true ((rd_T23 l0 (ji26)).f0) ((rd_T23 l0 (ji26)).f1) ((rd_T23 l0 (ji26)).f2) ((rd_T23 l0 (ji26)).f3) ((rd_T23 l0 (ji26)).f4)) else (if ((rd_T23 l0 (ji26)).f0) = 1 then (w9_CheckParts.j2 kj19 l0 y456 bt459.1 bt459.2 ((((rd_T23 l0 (ji26)).f1).size : Int) == 1) ((rd_T23 l0 (ji26)).f0) ((rd_T23 l0 (ji26)).f1) ((rd_T23 l0 (ji26)).f2) ((rd_T23 l0 (ji26)).f3) ((rd_T23 l0 (ji26)).f4)) else (w9_CheckParts.j2 kj19 l0 y456 bt459.1 bt459.2 false ((rd_T23 l0 (ji26)).f0) ((rd_T23 l0 (ji26)).f1) ((rd_T23 l0 (ji26)).f2) ((rd_T23 l0 (ji26)).f3) ((rd_T23 l0 (ji26)).f4)))) else (none)))) else (none))) else (none)) else (none))) else (none))) else (none)) else (none)) = some r := by first | (rw [hji26] at H; exact H) | (simp only [hji26] at H ⊢; exact H)
          by_cases c27 : 0 ≤ (ji26)
          ·
           rw [if_pos c27] at H
           have c27b0 := eq_true c27
           have c27b1 : decide (0 ≤ (ji26)) = true := decide_eq_true c27
           clear c27
           by_cases c28 : (ji26) ≤ (l0.length : Int)
           ·
            rw [if_pos c28] at H
            have c28b0 := eq_true c28
            have c28b1 : decide ((ji26) ≤ (l0.length : Int)) = true := decide_eq_true c28
            clear c28
            obtain ⟨y445, hy445⟩ : ∃ y_ : List (S23), y_ = (l0.take ((ji26) : Int).toNat) := ⟨_, rfl⟩
            replace H : (if y442.length + y445.length < 2513169434916 then ((some (y442 ++ y445 : List (S23))).bind fun y449 => (if 0 ≤ (wrap64 ((ji26) + 1)) then (if (wrap64 ((ji26) + 1)) ≤ (l0.length : Int) then ((some (l0.drop ((wrap64 ((ji26) + 1)) : Int).toNat : List (S23))).bind fun y452 => (if y449.length + y452.length < 2513169434916 then ((some (y449 ++ y452 : List (S23))).bind fun y456 => ((check_Table.f y456).bind fun bt459 => (if (ji26) < (l0.length : Int) then (if ((rd_T23 l0 (ji26)).f0) ≥ 6 then (w9_CheckParts.j2 kj19 l0 y456 bt459.1 bt459.2 true ((rd_T23 l0 (ji26)).f0) ((rd_T23 l0 (ji26)).f1) ((rd_T23 l0 (ji26)).f2) ((rd_T23 l0 (ji26)).f3) ((rd_T23 l0 (ji26)).f4)) else (if ((rd_T23 l0 (ji26)).f0) = 1 then (w9_CheckParts.j2 kj19 l0 y456 bt459.1 bt459.2 ((((rd_T23 l0 (ji26)).f1).size : Int) == 1) ((rd_T23 l0 (ji26)).f0) ((rd_T23 l0 (ji26)).f1) ((rd_T23 l0 (ji26)).f2) ((rd_T23 l0 (ji26)).f3) ((rd_T23 l0 (ji26)).f4)) else (w9_CheckParts.j2 kj19 l0 y456 bt459.1 bt459.2 false ((rd_T23 l0 (ji26)).f0) ((rd_T23 l0 (ji26)).f1) ((rd_T23 l0 (ji26)).f2) ((rd_T23 l0 (ji26)).f3) ((rd_T23 l0 (ji26)).f4)))) else (none)))) else (none))) else (none)) else (none))) else (none)) = some r := by first | (rw [hy445]; with_reducible exact H) | (have H2_ := (Option.bind_some _ _).symm.trans H; rw [hy445]; with_reducible exact H2_) | (have H2_ := (Option.bind_some _ _).symm.trans H; with_reducible exact H2_) | with_reducible exact H | (rw [hy445]; exact H) | exact H
            have Ny445 := aK hy445
            clear hy445
            by_cases c29 : y442.length + y445.length < 2513169434916
            ·
             rw [if_pos c29] at H
             have LMc29 := aK c29
             clear c29
             obtain ⟨y449, hy449⟩ : ∃ y_ : List (S23), y_ = (y442 ++ y445) := ⟨_, rfl⟩
             replace H : (if 0 ≤ (wrap64 ((ji26) + 1)) then (if (wrap64 ((ji26) + 1)) ≤ (l0.length : Int) then ((some (l0.drop ((wrap64 ((ji26) + 1)) : Int).toNat : List (S23))).bind fun y452 => (if y449.length + y452.length < 2513169434916 then ((some (y449 ++ y452 : List (S23))).bind fun y456 => ((check_Table.f y456).bind fun bt459 => (if (ji26) < (l0.length : Int) then (if ((rd_T23 l0 (ji26)).f0) ≥ 6 then (w9_CheckParts.j2 kj19 l0 y456 bt459.1 bt459.2 true ((rd_T23 l0 (ji26)).f0) ((rd_T23 l0 (ji26)).f1) ((rd_T23 l0 (ji26)).f2) ((rd_T23 l0 (ji26)).f3) ((rd_T23 l0 (ji26)).f4)) else (if ((rd_T23 l0 (ji26)).f0) = 1 then (w9_CheckParts.j2 kj19 l0 y456 bt459.1 bt459.2 ((((rd_T23 l0 (ji26)).f1).size : Int) == 1) ((rd_T23 l0 (ji26)).f0) ((rd_T23 l0 (ji26)).f1) ((rd_T23 l0 (ji26)).f2) ((rd_T23 l0 (ji26)).f3) ((rd_T23 l0 (ji26)).f4)) else (w9_CheckParts.j2 kj19 l0 y456 bt459.1 bt459.2 false ((rd_T23 l0 (ji26)).f0) ((rd_T23 l0 (ji26)).f1) ((rd_T23 l0 (ji26)).f2) ((rd_T23 l0 (ji26)).f3) ((rd_T23 l0 (ji26)).f4)))) else (none)))) else (none))) else (none)) else (none)) = some r := by first | (rw [hy449]; with_reducible exact H) | (have H2_ := (Option.bind_some _ _).symm.trans H; rw [hy449]; with_reducible exact H2_) | (have H2_ := (Option.bind_some _ _).symm.trans H; with_reducible exact H2_) | with_reducible exact H | (rw [hy449]; exact H) | exact H
             have Ny449 := aK hy449
             clear hy449
             obtain ⟨ji30, hji30⟩ : ∃ j_ : Int, (wrap64 ((ji26) + 1)) = j_ := ⟨_, rfl⟩
             replace H : (if 0 ≤ (ji30) then (if (ji30) ≤ (l0.length : Int) then ((some (l0.drop ((ji30) : Int).toNat : List (S23))).bind fun y452 => (if y449.length + y452.length < 2513169434916 then ((some (y449 ++ y452 : List (S23))).bind fun y456 => ((check_Table.f y456).bind fun bt459 => (if (ji26) < (l0.length : Int) then (if ((rd_T23 l0 (ji26)).f0) ≥ 6 then (w9_CheckParts.j2 kj19 l0 y456 bt459.1 bt459.2 true ((rd_T23 l0 (ji26)).f0) ((rd_T23 l0 (ji26)).f1) ((rd_T23 l0 (ji26)).f2) ((rd_T23 l0 (ji26)).f3) ((rd_T23 l0 (ji26)).f4)) else (if ((rd_T23 l0 (ji26)).f0) = 1 then (w9_CheckParts.j2 kj19 l0 y456 bt459.1 bt459.2 ((((rd_T23 l0 (ji26)).f1).size : Int) == 1) ((rd_T23 l0 (ji26)).f0) ((rd_T23 l0 (ji26)).f1) ((rd_T23 l0 (ji26)).f2) ((rd_T23 l0 (ji26)).f3) ((rd_T23 l0 (ji26)).f4)) else (w9_CheckParts.j2 kj19 l0 y456 bt459.1 bt459.2 false ((rd_T23 l0 (ji26)).f0) ((rd_T23 l0 (ji26)).f1) ((rd_T23 l0 (ji26)).f2) ((rd_T23 l0 (ji26)).f3) ((rd_T23 l0 (ji26)).f4)))) else (none)))) else (none))) else (none)) else (none)) = some r := by first | (rw [hji30] at H; exact H) | (simp only [hji30] at H ⊢; exact H)
             have hji30w : (IntKind.i64.wrap ((ji26) + 1)) = ji30 := (i64_w _).trans hji30
             by_cases c31 : 0 ≤ (ji30)
             ·
              rw [if_pos c31] at H
              have c31b0 := eq_true c31
              have c31b1 : decide (0 ≤ (ji30)) = true := decide_eq_true c31
              clear c31
              by_cases c32 : (ji30) ≤ (l0.length : Int)
              ·
               rw [if_pos c32] at H
               have c32b0 := eq_true c32
               have c32b1 : decide ((ji30) ≤ (l0.length : Int)) = true := decide_eq_true c32
               clear c32
               obtain ⟨y452, hy452⟩ : ∃ y_ : List (S23), y_ = (l0.drop ((ji30) : Int).toNat) := ⟨_, rfl⟩
               replace H : (if y449.length + y452.length < 2513169434916 then ((some (y449 ++ y452 : List (S23))).bind fun y456 => ((check_Table.f y456).bind fun bt459 => (if (ji26) < (l0.length : Int) then (if ((rd_T23 l0 (ji26)).f0) ≥ 6 then (w9_CheckParts.j2 kj19 l0 y456 bt459.1 bt459.2 true ((rd_T23 l0 (ji26)).f0) ((rd_T23 l0 (ji26)).f1) ((rd_T23 l0 (ji26)).f2) ((rd_T23 l0 (ji26)).f3) ((rd_T23 l0 (ji26)).f4)) else (if ((rd_T23 l0 (ji26)).f0) = 1 then (w9_CheckParts.j2 kj19 l0 y456 bt459.1 bt459.2 ((((rd_T23 l0 (ji26)).f1).size : Int) == 1) ((rd_T23 l0 (ji26)).f0) ((rd_T23 l0 (ji26)).f1) ((rd_T23 l0 (ji26)).f2) ((rd_T23 l0 (ji26)).f3) ((rd_T23 l0 (ji26)).f4)) else (w9_CheckParts.j2 kj19 l0 y456 bt459.1 bt459.2 false ((rd_T23 l0 (ji26)).f0) ((rd_T23 l0 (ji26)).f1) ((rd_T23 l0 (ji26)).f2) ((rd_T23 l0 (ji26)).f3) ((rd_T23 l0 (ji26)).f4)))) else (none)))) else (none)) = some r := by first | (rw [hy452]; with_reducible exact H) | (have H2_ := (Option.bind_some _ _).symm.trans H; rw [hy452]; with_reducible exact H2_) | (have H2_ := (Option.bind_some _ _).symm.trans H; with_reducible exact H2_) | with_reducible exact H | (rw [hy452]; exact H) | exact H
               have Ny452 := aK hy452
               clear hy452
               by_cases c33 : y449.length + y452.length < 2513169434916
               ·
                rw [if_pos c33] at H
                have LMc33 := aK c33
                clear c33
                obtain ⟨y456, hy456⟩ : ∃ y_ : List (S23), y_ = (y449 ++ y452) := ⟨_, rfl⟩
                replace H : ((check_Table.f y456).bind fun bt459 => (if (ji26) < (l0.length : Int) then (if ((rd_T23 l0 (ji26)).f0) ≥ 6 then (w9_CheckParts.j2 kj19 l0 y456 bt459.1 bt459.2 true ((rd_T23 l0 (ji26)).f0) ((rd_T23 l0 (ji26)).f1) ((rd_T23 l0 (ji26)).f2) ((rd_T23 l0 (ji26)).f3) ((rd_T23 l0 (ji26)).f4)) else (if ((rd_T23 l0 (ji26)).f0) = 1 then (w9_CheckParts.j2 kj19 l0 y456 bt459.1 bt459.2 ((((rd_T23 l0 (ji26)).f1).size : Int) == 1) ((rd_T23 l0 (ji26)).f0) ((rd_T23 l0 (ji26)).f1) ((rd_T23 l0 (ji26)).f2) ((rd_T23 l0 (ji26)).f3) ((rd_T23 l0 (ji26)).f4)) else (w9_CheckParts.j2 kj19 l0 y456 bt459.1 bt459.2 false ((rd_T23 l0 (ji26)).f0) ((rd_T23 l0 (ji26)).f1) ((rd_T23 l0 (ji26)).f2) ((rd_T23 l0 (ji26)).f3) ((rd_T23 l0 (ji26)).f4)))) else (none))) = some r := by first | (rw [hy456]; with_reducible exact H) | (have H2_ := (Option.bind_some _ _).symm.trans H; rw [hy456]; with_reducible exact H2_) | (have H2_ := (Option.bind_some _ _).symm.trans H; with_reducible exact H2_) | with_reducible exact H | (rw [hy456]; exact H) | exact H
                have Ny456 := aK hy456
                clear hy456
                replace H := Option.bind_eq_some_iff.mp H
                obtain ⟨⟨t459, t460⟩, A340, H⟩ := H
                try dsimp only at H
                have A34 := aK A340
                clear A340
                by_cases c35 : (ji26) < (l0.length : Int)
                ·
                 rw [if_pos c35] at H
                 have c35b0 : decide ((ji26) < (l0.length : Int)) = true := decide_eq_true c35
                 clear c35
                 have HC36 := aK H
                 clear H
                 try go_wp2
                 have n0_ := aK (bD1 HB.out)
                 clear HB
                 have HB := n0_
                 clear n0_
                 have q38 : ((ji26) : Int) ≤ ((l0.length : Int) : Int) := odT (by first | (with_reducible assumption) | assumption)
                 obtain ⟨i038, hi038, _, hsz38, _⟩ := info_parts info23
                 have hroom38 : l0.length ≤ c0 := HC0.out
                 have hC38 : Kd.C k23 _ A0 l0.length l0 := HR0.out
                 have hcut38 := cut_to (P := Try.prog) 25 23 .i64 Try.underlying25 hi038 A0 l0.length c0 (ji26) (odT (by first | (with_reducible assumption) | assumption)) q38 hroom38
                 have hr38 := Kd.C_take (m := ((ji26) : Int).toNat) hC38 (by omega)
                 have hy38 : y445.length = ((ji26) : Int).toNat := (by rw [Ny445.out, List.length_take]; omega)
                 rw [← Ny445.out] at hr38
                 rw [← hy38] at hcut38
                 have HR448 := aK hr38
                 have HC448 := aK (show y445.length ≤ c0 from by omega)
                 clear hr38 hC38 hroom38 hi038 hsz38
                 have KY38 := aK hy38
                 clear hy38
                 replace q38 := eq_true q38
                 have q39 : ((ji30) : Int) ≤ ((l0.length : Int) : Int) := odT (by first | (with_reducible assumption) | assumption)
                 obtain ⟨i039, hi039, _, hsz39, _⟩ := info_parts info23
                 have hroom39 : l0.length ≤ c0 := HC0.out
                 have hC39 : Kd.C k23 _ A0 l0.length l0 := HR0.out
                 have q039 : (0 : Int) ≤ ((ji30) : Int) := odT (by first | (with_reducible assumption) | assumption)
                 have hcut39 := cut_from (P := Try.prog) 25 23 .i64 Try.underlying25 hi039 5 hsz39 A0 l0.length c0 (ji30) q039 q39
                 have hr39 := Kd.C_drop (m := ((ji30) : Int).toNat) (c := c0) hC39 (by omega) hroom39
                 obtain ⟨A39, hA39⟩ : ∃ A1, A1 = (if c0 = ((ji30) : Int).toNat then A0 else (A0 : Option Addr).map (·.add (((ji30) : Int).toNat * 5))) := ⟨_, rfl⟩
                 obtain ⟨c39, hc39⟩ : ∃ c1, c1 = c0 - ((ji30) : Int).toNat := ⟨_, rfl⟩
                 have hy39 : y452.length = l0.length - ((ji30) : Int).toNat := (by rw [Ny452.out, List.length_drop] <;> omega)
                 rw [show (l0).drop ((ji30) : Int).toNat = y452 from Ny452.out.symm] at hr39
                 replace hr39 : Kd.C k23 _ A39 y452.length y452 := (by rw [hA39]; exact hr39)
                 rw [← hy39, ← hA39, ← hc39] at hcut39
                 have HR455 := aK hr39
                 have HC455 := aK (show y452.length ≤ c39 from by rw [hy39, hc39]; exact Nat.sub_le_sub_right hroom39 _)
                 clear hr39 hC39 hroom39 hi039 hsz39 hc39
                 have KY39 := aK hy39
                 have KA39 := aK hA39
                 clear hy39 hA39
                 replace q39 := eq_true q39
                 refine start_ (n := 11) (S := fun w' => True) (ds := []) #[false, false, false, false, false, false, false, false, false, false, false] (by kernel_rfl) rfl rfl trivial (fun hHeld => ?_); refine with_tabW w9_CheckParts.tab15 w9_CheckParts.bits15 (fun HT_ HW_ => ?_)
                 generalize wc.drew = w37 at HB HR448 HR455 hHeld ⊢
                 refine pure_ (i := 1) (N := some 62) (v := ?_) (a' := ?_) #[false, true, false, false, false, false, false, false, false, false, false] rfl rfl (any_of HT_.out (by kernel_rfl)) (fun _ _ _ h => h) (Or.inl ⟨by rfl, ?_⟩) ?_ ?_
                 rotate_left
                 ·
                  intro w'
                  go_simp
                  with_reducible rfl
                 rotate_left
                 ·
                  simp only [Act.put, qSa, qS0, qS1, i64_w, i32_w]
                  rfl
                 refine pure_ (i := 2) (N := some 63) (v := ?_) (a' := ?_) #[false, true, true, false, false, false, false, false, false, false, false] rfl rfl (any_of HT_.out (by kernel_rfl)) (fun _ _ _ h => h) (Or.inl ⟨by rfl, ?_⟩) ?_ ?_
                 rotate_left
                 ·
                  intro w'
                  go_simp
                  with_reducible rfl
                 rotate_left
                 ·
                  simp only [Act.put, qSa, qS0, qS1, i64_w, i32_w]
                  rfl
                 refine pure_ (i := 3) (N := some 64) (v := ?_) (a' := ?_) #[false, true, true, true, false, false, false, false, false, false, false] rfl rfl (any_of HT_.out (by kernel_rfl)) (fun _ _ _ h => h) (Or.inl ⟨by rfl, ?_⟩) ?_ ?_
                 rotate_left
                 ·
                  intro w'
                  go_simp
                  with_reducible rfl
                 rotate_left
                 ·
                  simp only [Act.put, qSa, qS0, qS1, i64_w, i32_w]
                  rfl
                 refine pure_ (i := 5) (N := some 66) (v := ?_) (a' := ?_) #[false, true, true, true, false, true, false, false, false, false, false] rfl rfl (any_of HT_.out (by kernel_rfl)) (fun _ _ _ h => h) (Or.inl ⟨by rfl, ?_⟩) ?_ ?_
                 rotate_left
                 ·
                  intro w'
                  go_simp
                  with_reducible rfl
                 rotate_left
                 ·
                  simp only [Act.put, qSa, qS0, qS1, i64_w, i32_w]
                  rfl
                 refine pure_ (i := 6) (N := some 67) (v := ?_) (a' := ?_) #[false, true, true, true, false, true, true, false, false, false, false] rfl rfl (any_of HT_.out (by kernel_rfl)) (fun _ _ _ h => h) (Or.inl ⟨by rfl, ?_⟩) ?_ ?_
                 rotate_left
                 ·
                  intro w'
                  go_simp
                  with_reducible rfl
                 rotate_left
                 ·
                  simp only [Act.put, qSa, qS0, qS1, i64_w, i32_w]
                  rfl
                 refine pure_ (i := 7) (N := some 68) (v := ?_) (a' := ?_) #[false, true, true, true, false, true, true, true, false, false, false] rfl rfl (any_of HT_.out (by kernel_rfl)) (fun _ _ _ h => h) (Or.inl ⟨by rfl, ?_⟩) ?_ ?_
                 rotate_left
                 ·
                  intro w'
                  go_simp
                  with_reducible rfl
                 rotate_left
                 ·
                  simp only [Act.put, qSa, qS0, qS1, i64_w, i32_w]
                  rfl
                 refine pure_ (i := 8) (N := some 69) (v := ?_) (a' := ?_) #[false, true, true, true, false, true, true, true, true, false, false] rfl rfl (any_of HT_.out (by kernel_rfl)) (fun _ _ _ h => h) (Or.inl ⟨by rfl, ?_⟩) ?_ ?_
                 rotate_left
                 ·
                  intro w'
                  go_simp
                  with_reducible rfl
                 rotate_left
                 ·
                  simp only [Act.put, qSa, qS0, qS1, i64_w, i32_w]
                  rfl
                 refine one_ (i := 0) (N := some 61) #[true, true, true, true, false, true, true, true, true, false, false] rfl rfl (one_of HT_.out (by kernel_rfl)) (by decide) (fun K hK => ?_)
                 refine Kd.R_lit_step k23 _ 23 ?hg (N := 61) ?hd (xs := ([] : List (S23))) (inner := []) (ok := fun _ => True) (okp := fun _ => True) ?hr ?hp (fun _ hk => hk) trivial (Below.refl _ _) (Nat.le_refl _) (by simp) ?_; (case hd => rfl); (case hg => rfl); (case hr => first | (go_simp; done) | (go_simp; rfl)); (case hp => exact (Reps.none _ _))
                 intro v443 w40 ho41 hb hg_ hnew_
                 clear hg_ hnew_
                 (first | rw [← Ny442.out] at ho41 | (simp only [Int.reduceToNat] at ho41; rw [← Ny442.out] at ho41))
                 have n0_ := aK (Kd.R_lower ho41 (bSz (by repeat (first | (with_reducible first | exact HB.out | apply bAl | apply pbD | apply bD1) | exact HB.out))))
                 have n1_ := aK (bSp (by repeat (first | (with_reducible first | exact HB.out | apply bAl | apply pbD | apply bD1) | exact HB.out)) hb)
                 clear HB
                 have HO444 := n0_
                 have HB := n1_
                 clear n0_ n1_
                 clear hb ho41
                 refine hK.out _ _ trivial (fun hHeld => ?_)
                 clear hK K
                 refine norm_ (a' := ?_) ?_ ?_
                 rotate_left
                 ·
                  show Act.put _ (some 61) _ = _
                  simp only [Act.put, qSa, qS0, qS1, i64_w, i32_w]
                  rfl
                 refine one_ (i := 4) (N := some 65) #[true, true, true, true, true, true, true, true, true, false, false] rfl rfl (one_of HT_.out (by kernel_rfl)) (by decide) (fun K hK => ?_)
                 refine Kd.R_append_rows_step k23 (w0 := w) w.heap.size (by rfl) (.tmp 61) (.tmp 64) 25 23 (.agg #[(.int .i64 0), (.string ⟨#[]⟩), (.string ⟨#[]⟩), (.int .i64 0), (.int .i64 0)]) 56 rfl Try.underlying25 info23 rfl (by decide) (by omega) v443 y442 y445 _ _ _ (fun _ => True) (fun _ => False) rfl rfl ?aO ?aR (fun _ _ h => h) (fun _ h => h.elim) ?aF ?aB ?aS ?aL ?_
                 (case aR => repeat (first | exact (Kd.C_below HR448.out HB.out) | (with_reducible refine Kd.C_alloc ?_ _) | (with_reducible refine Kd.C_drewN ?_ _) | (with_reducible refine Kd.C_drew ?_)))
                 (case aB => exact (by repeat (first | (with_reducible first | exact HB.out | apply bAl | apply pbD | apply bD1) | exact HB.out)))
                 (case aF => exact (fun _ _ => trivial))
                 (case aO => exact (by (with_reducible repeat (first | apply Kd.R_alloc | apply Kd.R_drewN | apply Kd.R_drew)); exact HO444.out))
                 (case aS => exact (bSz (by repeat (first | (with_reducible first | exact HB.out | apply bAl | apply pbD | apply bD1) | exact HB.out))))
                 (case aL => have := LMc29.out; omega)
                 intro v450 w42 ho hb hg hat
                 rw [← Ny449.out] at ho
                 have n0_ := aK (hb)
                 have n1_ := aK (ho)
                 clear HB
                 clear HO444
                 have HB := n0_
                 have HO451 := n1_
                 clear n0_ n1_
                 clear ho hb hg hat
                 refine hK.out _ _ trivial (fun hHeld => ?_)
                 clear hK K
                 refine norm_ (a' := ?_) ?_ ?_
                 rotate_left
                 ·
                  show Act.put _ (some 65) _ = _
                  simp only [Act.put, qSa, qS0, qS1, i64_w, i32_w]
                  rfl
                 refine one_ (i := 9) (N := some 70) #[true, true, true, true, true, true, true, true, true, true, false] rfl rfl (one_of HT_.out (by kernel_rfl)) (by decide) (fun K hK => ?_)
                 refine Kd.R_append_rows_step k23 (w0 := w) w.heap.size (by rfl) (.tmp 65) (.tmp 69) 25 23 (.agg #[(.int .i64 0), (.string ⟨#[]⟩), (.string ⟨#[]⟩), (.int .i64 0), (.int .i64 0)]) 56 rfl Try.underlying25 info23 rfl (by decide) (by omega) v450 y449 y452 _ _ _ (fun _ => True) (fun _ => False) rfl rfl ?aO ?aR (fun _ _ h => h) (fun _ h => h.elim) ?aF ?aB ?aS ?aL ?_
                 (case aR => repeat (first | exact (Kd.C_below HR455.out HB.out) | (with_reducible refine Kd.C_alloc ?_ _) | (with_reducible refine Kd.C_drewN ?_ _) | (with_reducible refine Kd.C_drew ?_)))
                 (case aB => exact (by repeat (first | (with_reducible first | exact HB.out | apply bAl | apply pbD | apply bD1) | exact HB.out)))
                 (case aF => exact (fun _ _ => trivial))
                 (case aO => exact (by (with_reducible repeat (first | apply Kd.R_alloc | apply Kd.R_drewN | apply Kd.R_drew)); exact HO451.out))
                 (case aS => exact (bSz (by repeat (first | (with_reducible first | exact HB.out | apply bAl | apply pbD | apply bD1) | exact HB.out))))
                 (case aL => have := LMc33.out; omega)
                 intro v457 w43 ho hb hg hat
                 rw [← Ny456.out] at ho
                 have n0_ := aK (hb)
                 have n1_ := aK (ho)
                 clear HB
                 clear HO451
                 have HB := n0_
                 have HO458 := n1_
                 clear n0_ n1_
                 clear ho hb hg hat
                 refine hK.out _ _ trivial (fun hHeld => ?_)
                 clear hK K
                 refine norm_ (a' := ?_) ?_ ?_
                 rotate_left
                 ·
                  show Act.put _ (some 70) _ = _
                  simp only [Act.put, qSa, qS0, qS1, i64_w, i32_w]
                  rfl
                 refine pure_ (i := 10) (N := some 12) (v := ?_) (a' := ?_) #[true, true, true, true, true, true, true, true, true, true, true] rfl rfl (any_of HT_.out (by kernel_rfl)) (fun _ _ _ h => h) (Or.inl ⟨by rfl, ?_⟩) ?_ ?_
                 rotate_left
                 ·
                  intro w'
                  go_simp
                  with_reducible rfl
                 rotate_left
                 ·
                  simp only [Act.put, qSa, qS0, qS1, i64_w, i32_w]
                  rfl
                 refine done_ (done_of HT_.out (by kernel_rfl)) ?_
                 obtain ⟨Ao44, co44, eo44⟩ := Kd.R_slice HO458.out
                 subst eo44
                 go_upto_region 18 with (first | ((with_reducible refine gate_callee (f := 15) rfl ?_); refine goesL_ (some 73) rfl rfl Try.func15 (by kernel_rfl) rfl #[.slice Ao44 y456.length co44] rfl (by (try simp only [List.map_toArray, List.map_cons, List.map_nil]); first | done | rfl | (simp only [List.length_drop, List.length_take]; rfl)) ?_; (with_reducible refine (check_Table.calls _ _ y456 t459 t460 _ ?side1 ?side2 A34.out).mono ?_); (case side1 => repeat (first | exact (Kd.R_reads' HO458.out).2.2 | (with_reducible refine Kd.C_alloc ?_ _) | (with_reducible refine Kd.C_drewN ?_ _) | (with_reducible refine Kd.C_drew ?_))); (case side2 => exact (Kd.R_reads' HO458.out).2.1); rintro e w45 ⟨rfl, hb⟩; refine ⟨_, rfl, ?_⟩; have n0_ := aK (Kd.R_below (by (with_reducible repeat (first | apply Kd.R_alloc | apply Kd.R_drewN | apply Kd.R_drew)); exact HO458.out) hb); have n1_ := aK (bSp (by repeat (first | (with_reducible first | exact HB.out | apply bAl | apply pbD | apply bD1) | exact HB.out)) hb); clear HO458; clear HB; have HO458 := n0_; have HB := n1_; clear n0_ n1_; (try clear hb); (try clear hb2); (try clear hk); (try clear hi); have p461 : 0 ≤ ((ji26) : Int) := odT (by first | (with_reducible assumption) | assumption); have q461 : (ji26) < (l0.length : Int) := odT (by first | (with_reducible assumption) | assumption); obtain ⟨ad461, e461, hx461_0, hx461_1, hx461_2, hx461_3, hx461_4⟩ := at_T23 HR0.out (ji26) p461 q461; cases e461; replace hx461_0 := (HB.out.cell (World.block_lt_of_cell? w _ hx461_0)).trans hx461_0; replace hx461_1 := (HB.out.cell (World.block_lt_of_cell? w _ hx461_1)).trans hx461_1; replace hx461_2 := (HB.out.cell (World.block_lt_of_cell? w _ hx461_2)).trans hx461_2; replace hx461_3 := (HB.out.cell (World.block_lt_of_cell? w _ hx461_3)).trans hx461_3; replace hx461_4 := (HB.out.cell (World.block_lt_of_cell? w _ hx461_4)).trans hx461_4; replace p461 := eq_true p461; replace q461 := eq_true q461) | ((with_reducible refine gate_dst (N := 15) rfl ?_); (try (refine gate_guard (by rfl) ?_; dsimp only)); refine box_event ?hg (N := 15) ?hd (cs := #[.int .i64 0, .string (⟨#[]⟩ : ByteArray), .string (⟨#[]⟩ : ByteArray), .int .i64 0, .int .i64 0]) (t := 23) ?hr ?_; (case hd => rfl); (case hg => rfl); (case hr => first | (go_simp; done) | (go_simp; rfl)); intro gb462 hg w46 hbox hb; have n0_ := aK (Kd.R_below (Kd.R_elderB (by (with_reducible repeat (first | apply Kd.R_alloc | apply Kd.R_drewN | apply Kd.R_drew)); exact HO458.out) gb462 (Nat.le_of_eq hg.symm)) hb); have n1_ := aK (bSp (by repeat (first | (with_reducible first | exact HB.out | apply bAl | apply pbD | apply bD1) | exact HB.out)) hb); have n2_ := aK (hbox); have n3_ := aK ((by rw [hg]; exact (bSz (by repeat (first | (with_reducible first | exact HB.out | apply bAl | apply pbD | apply bD1) | exact HB.out))) : w.heap.size ≤ gb462)); have n4_ := aK ((by rw [hg]; exact (bSz (by repeat (first | (with_reducible first | exact HB.out | apply bAl | apply pbD | apply bD1) | exact HB.out))) : w.heap.size ≤ gb462)); clear HO458; clear HB; have HO458 := n0_; have HB := n1_; have BK462 := n2_; have GW462 := n3_; have GE462 := n4_; clear n0_ n1_ n2_ n3_ n4_; clear hb hbox hg; have hcz47_0 : w46.cell? ⟨gb462, 0, none⟩ = some (.int .i64 0) := (kCe BK462.out 0).trans rfl; have hcz47_1 : w46.cell? ⟨gb462, 1, none⟩ = some (.string (⟨#[]⟩ : ByteArray)) := (kCe BK462.out 1).trans rfl; have hcz47_2 : w46.cell? ⟨gb462, 2, none⟩ = some (.string (⟨#[]⟩ : ByteArray)) := (kCe BK462.out 2).trans rfl; have hcz47_3 : w46.cell? ⟨gb462, 3, none⟩ = some (.int .i64 0) := (kCe BK462.out 3).trans rfl; have hcz47_4 : w46.cell? ⟨gb462, 4, none⟩ = some (.int .i64 0) := (kCe BK462.out 4).trans rfl; have hfz47_0 := bFz BK462.out 0; have hfz47_1 := bFz BK462.out 1; have hfz47_2 := bFz BK462.out 2; have hfz47_3 := bFz BK462.out 3; have hfz47_4 := bFz BK462.out 4))
                 (try simp only [Act.put, qSa, qS0, qS1])
                 go_cut [16] (fun v16 wc => ∃ (kq : Nat) (x16_35 : Bool), v16 = .bool x16_35 ∧ Aside0 (w9_CheckParts.j2 kq l0 y456 t459 t460 x16_35 ((rd_T23 l0 (ji26)).f0) ((rd_T23 l0 (ji26)).f1) ((rd_T23 l0 (ji26)).f2) ((rd_T23 l0 (ji26)).f3) ((rd_T23 l0 (ji26)).f4) = some r) ∧ Aside0 (kq ≤ kj19) ∧ Aside0 (Kd.R k23 23 wc w.heap.size (fun k_ => k_ ≠ gb462) (.slice Ao44 y456.length co44) y456) ∧ Aside0 (wc.heap[gb462]? = some (.cells #[.int .i64 ((rd_T23 l0 (ji26)).f0), .string ((rd_T23 l0 (ji26)).f1), .string ((rd_T23 l0 (ji26)).f2), .int .i64 ((rd_T23 l0 (ji26)).f3), .int .i64 ((rd_T23 l0 (ji26)).f4)] 23 (0, 0))) ∧ Aside0 (Below w.heap.size w wc))
                 case first =>
                  have H := HC36.out
                  clear HC36
                  by_cases c48 : ((rd_T23 l0 (ji26)).f0) ≥ 6
                  ·
                   rw [if_pos c48] at H
                   have c48b0 : decide (6 ≤ ((rd_T23 l0 (ji26)).f0)) = true := decide_eq_true c48
                   clear c48
                   (first | rw [c48b0] | (simp only [i64_w, i32_w]; rw [c48b0]) | skip)
                   have H' := aK H
                   clear H
                   have hcz49_0 : w46.cell? ⟨gb462, 0, none⟩ = some (.int .i64 0) := (kCe BK462.out 0).trans rfl
                   have hcz49_1 : w46.cell? ⟨gb462, 1, none⟩ = some (.string (⟨#[]⟩ : ByteArray)) := (kCe BK462.out 1).trans rfl
                   have hcz49_2 : w46.cell? ⟨gb462, 2, none⟩ = some (.string (⟨#[]⟩ : ByteArray)) := (kCe BK462.out 2).trans rfl
                   have hcz49_3 : w46.cell? ⟨gb462, 3, none⟩ = some (.int .i64 0) := (kCe BK462.out 3).trans rfl
                   have hcz49_4 : w46.cell? ⟨gb462, 4, none⟩ = some (.int .i64 0) := (kCe BK462.out 4).trans rfl
                   have hfz49_0 := bFz BK462.out 0
                   have hfz49_1 := bFz BK462.out 1
                   have hfz49_2 := bFz BK462.out 2
                   have hfz49_3 := bFz BK462.out 3
                   have hfz49_4 := bFz BK462.out 4
                   go_wp2
                   go_meet
                   case rel => exact ⟨_, (true), (by first | rfl | (simp; done) | (simp [*]; done)), H', ⟨by have := HK1.out; have := HJ19.out; first | omega | exact Nat.le_refl _⟩, ⟨by (with_reducible repeat (first | apply Kd.R_alloc | apply Kd.R_drewN | apply Kd.R_drew)); exact Kd.R_mono (Kd.R_far (p := ⟨gb462, 4, none⟩) (Kd.R_far (p := ⟨gb462, 3, none⟩) (Kd.R_far (p := ⟨gb462, 2, none⟩) (Kd.R_far (p := ⟨gb462, 1, none⟩) (Kd.R_far (p := ⟨gb462, 0, none⟩) (Kd.R_mono HO458.out (fun k_ hk => (⟨hk, hk.2⟩ : _ ∧ k_ ≠ gb462))) (fun _ hk => hk.2) (.int .i64 ((rd_T23 l0 (ji26)).f0))) (fun _ hk => hk.2) (.string ((rd_T23 l0 (ji26)).f1))) (fun _ hk => hk.2) (.string ((rd_T23 l0 (ji26)).f2))) (fun _ hk => hk.2) (.int .i64 ((rd_T23 l0 (ji26)).f3))) (fun _ hk => hk.2) (.int .i64 ((rd_T23 l0 (ji26)).f4))) (fun _ hk => hk.1.2)⟩, ⟨by (with_reducible repeat (first | refine kDN ?_ _ | refine kDr ?_ | refine kAl ?_ _)); refine blk_put (cs := #[.int .i64 ((rd_T23 l0 (ji26)).f0), .string ((rd_T23 l0 (ji26)).f1), .string ((rd_T23 l0 (ji26)).f2), .int .i64 ((rd_T23 l0 (ji26)).f3), .int .i64 0]) ?_ 4 _ rfl; (with_reducible repeat (first | refine kDN ?_ _ | refine kDr ?_ | refine kAl ?_ _)); refine blk_put (cs := #[.int .i64 ((rd_T23 l0 (ji26)).f0), .string ((rd_T23 l0 (ji26)).f1), .string ((rd_T23 l0 (ji26)).f2), .int .i64 0, .int .i64 0]) ?_ 3 _ rfl; (with_reducible repeat (first | refine kDN ?_ _ | refine kDr ?_ | refine kAl ?_ _)); refine blk_put (cs := #[.int .i64 ((rd_T23 l0 (ji26)).f0), .string ((rd_T23 l0 (ji26)).f1), .string (⟨#[]⟩ : ByteArray), .int .i64 0, .int .i64 0]) ?_ 2 _ rfl; (with_reducible repeat (first | refine kDN ?_ _ | refine kDr ?_ | refine kAl ?_ _)); refine blk_put (cs := #[.int .i64 ((rd_T23 l0 (ji26)).f0), .string (⟨#[]⟩ : ByteArray), .string (⟨#[]⟩ : ByteArray), .int .i64 0, .int .i64 0]) ?_ 1 _ rfl; (with_reducible repeat (first | refine kDN ?_ _ | refine kDr ?_ | refine kAl ?_ _)); refine blk_put (cs := #[.int .i64 0, .string (⟨#[]⟩ : ByteArray), .string (⟨#[]⟩ : ByteArray), .int .i64 0, .int .i64 0]) ?_ 0 _ rfl; (with_reducible repeat (first | refine kDN ?_ _ | refine kDr ?_ | refine kAl ?_ _)); exact BK462.out⟩, ⟨by repeat (first | (with_reducible first | exact HB.out | apply bAl | apply pbD | apply bD1 | refine bSt ?_ GE462.out) | exact HB.out)⟩⟩
                  ·
                   rw [if_neg c48] at H
                   have c48b0 : decide (6 ≤ ((rd_T23 l0 (ji26)).f0)) = false := decide_eq_false c48
                   clear c48
                   (first | rw [c48b0] | (simp only [i64_w, i32_w]; rw [c48b0]) | skip)
                   by_cases c50 : ((rd_T23 l0 (ji26)).f0) = 1
                   ·
                    rw [if_pos c50] at H
                    have c50b0 : (((rd_T23 l0 (ji26)).f0) == 1) = true := beq_iff_eq.mpr c50
                    have c50b1 : (((rd_T23 l0 (ji26)).f0) != 1) = false := bne_eq_false_iff_eq.mpr c50
                    clear c50
                    have H' := aK H
                    clear H
                    have hcz51_0 : w46.cell? ⟨gb462, 0, none⟩ = some (.int .i64 0) := (kCe BK462.out 0).trans rfl
                    have hcz51_1 : w46.cell? ⟨gb462, 1, none⟩ = some (.string (⟨#[]⟩ : ByteArray)) := (kCe BK462.out 1).trans rfl
                    have hcz51_2 : w46.cell? ⟨gb462, 2, none⟩ = some (.string (⟨#[]⟩ : ByteArray)) := (kCe BK462.out 2).trans rfl
                    have hcz51_3 : w46.cell? ⟨gb462, 3, none⟩ = some (.int .i64 0) := (kCe BK462.out 3).trans rfl
                    have hcz51_4 : w46.cell? ⟨gb462, 4, none⟩ = some (.int .i64 0) := (kCe BK462.out 4).trans rfl
                    have hfz51_0 := bFz BK462.out 0
                    have hfz51_1 := bFz BK462.out 1
                    have hfz51_2 := bFz BK462.out 2
                    have hfz51_3 := bFz BK462.out 3
                    have hfz51_4 := bFz BK462.out 4
                    go_wp2
                    go_meet
                    case rel => exact ⟨_, (((((rd_T23 l0 (ji26)).f1).size : Int) == 1)), (by first | rfl | (simp; done) | (simp only [← hji26] <;> (first | rfl | simp)) | (simp [*]; done)), H', ⟨by have := HK1.out; have := HJ19.out; first | omega | exact Nat.le_refl _⟩, ⟨by (with_reducible repeat (first | apply Kd.R_alloc | apply Kd.R_drewN | apply Kd.R_drew)); exact Kd.R_mono (Kd.R_far (p := ⟨gb462, 4, none⟩) (Kd.R_far (p := ⟨gb462, 3, none⟩) (Kd.R_far (p := ⟨gb462, 2, none⟩) (Kd.R_far (p := ⟨gb462, 1, none⟩) (Kd.R_far (p := ⟨gb462, 0, none⟩) (Kd.R_mono HO458.out (fun k_ hk => (⟨hk, hk.2⟩ : _ ∧ k_ ≠ gb462))) (fun _ hk => hk.2) (.int .i64 ((rd_T23 l0 (ji26)).f0))) (fun _ hk => hk.2) (.string ((rd_T23 l0 (ji26)).f1))) (fun _ hk => hk.2) (.string ((rd_T23 l0 (ji26)).f2))) (fun _ hk => hk.2) (.int .i64 ((rd_T23 l0 (ji26)).f3))) (fun _ hk => hk.2) (.int .i64 ((rd_T23 l0 (ji26)).f4))) (fun _ hk => hk.1.2)⟩, ⟨by (with_reducible repeat (first | refine kDN ?_ _ | refine kDr ?_ | refine kAl ?_ _)); refine blk_put (cs := #[.int .i64 ((rd_T23 l0 (ji26)).f0), .string ((rd_T23 l0 (ji26)).f1), .string ((rd_T23 l0 (ji26)).f2), .int .i64 ((rd_T23 l0 (ji26)).f3), .int .i64 0]) ?_ 4 _ rfl; (with_reducible repeat (first | refine kDN ?_ _ | refine kDr ?_ | refine kAl ?_ _)); refine blk_put (cs := #[.int .i64 ((rd_T23 l0 (ji26)).f0), .string ((rd_T23 l0 (ji26)).f1), .string ((rd_T23 l0 (ji26)).f2), .int .i64 0, .int .i64 0]) ?_ 3 _ rfl; (with_reducible repeat (first | refine kDN ?_ _ | refine kDr ?_ | refine kAl ?_ _)); refine blk_put (cs := #[.int .i64 ((rd_T23 l0 (ji26)).f0), .string ((rd_T23 l0 (ji26)).f1), .string (⟨#[]⟩ : ByteArray), .int .i64 0, .int .i64 0]) ?_ 2 _ rfl; (with_reducible repeat (first | refine kDN ?_ _ | refine kDr ?_ | refine kAl ?_ _)); refine blk_put (cs := #[.int .i64 ((rd_T23 l0 (ji26)).f0), .string (⟨#[]⟩ : ByteArray), .string (⟨#[]⟩ : ByteArray), .int .i64 0, .int .i64 0]) ?_ 1 _ rfl; (with_reducible repeat (first | refine kDN ?_ _ | refine kDr ?_ | refine kAl ?_ _)); refine blk_put (cs := #[.int .i64 0, .string (⟨#[]⟩ : ByteArray), .string (⟨#[]⟩ : ByteArray), .int .i64 0, .int .i64 0]) ?_ 0 _ rfl; (with_reducible repeat (first | refine kDN ?_ _ | refine kDr ?_ | refine kAl ?_ _)); exact BK462.out⟩, ⟨by repeat (first | (with_reducible first | exact HB.out | apply bAl | apply pbD | apply bD1 | refine bSt ?_ GE462.out) | exact HB.out)⟩⟩
                   ·
                    rw [if_neg c50] at H
                    have c50b0 : (((rd_T23 l0 (ji26)).f0) == 1) = false := beq_eq_false_iff_ne.mpr c50
                    have c50b1 : (((rd_T23 l0 (ji26)).f0) != 1) = true := bne_iff_ne.mpr c50
                    have H' := aK H
                    clear H
                    have hcz52_0 : w46.cell? ⟨gb462, 0, none⟩ = some (.int .i64 0) := (kCe BK462.out 0).trans rfl
                    have hcz52_1 : w46.cell? ⟨gb462, 1, none⟩ = some (.string (⟨#[]⟩ : ByteArray)) := (kCe BK462.out 1).trans rfl
                    have hcz52_2 : w46.cell? ⟨gb462, 2, none⟩ = some (.string (⟨#[]⟩ : ByteArray)) := (kCe BK462.out 2).trans rfl
                    have hcz52_3 : w46.cell? ⟨gb462, 3, none⟩ = some (.int .i64 0) := (kCe BK462.out 3).trans rfl
                    have hcz52_4 : w46.cell? ⟨gb462, 4, none⟩ = some (.int .i64 0) := (kCe BK462.out 4).trans rfl
                    have hfz52_0 := bFz BK462.out 0
                    have hfz52_1 := bFz BK462.out 1
                    have hfz52_2 := bFz BK462.out 2
                    have hfz52_3 := bFz BK462.out 3
                    have hfz52_4 := bFz BK462.out 4
                    go_wp2
                    go_meet
                    case rel => exact ⟨_, (false), (by first | rfl | (simp; done) | (simp [*]; done)), H', ⟨by have := HK1.out; have := HJ19.out; first | omega | exact Nat.le_refl _⟩, ⟨by (with_reducible repeat (first | apply Kd.R_alloc | apply Kd.R_drewN | apply Kd.R_drew)); exact Kd.R_mono (Kd.R_far (p := ⟨gb462, 4, none⟩) (Kd.R_far (p := ⟨gb462, 3, none⟩) (Kd.R_far (p := ⟨gb462, 2, none⟩) (Kd.R_far (p := ⟨gb462, 1, none⟩) (Kd.R_far (p := ⟨gb462, 0, none⟩) (Kd.R_mono HO458.out (fun k_ hk => (⟨hk, hk.2⟩ : _ ∧ k_ ≠ gb462))) (fun _ hk => hk.2) (.int .i64 ((rd_T23 l0 (ji26)).f0))) (fun _ hk => hk.2) (.string ((rd_T23 l0 (ji26)).f1))) (fun _ hk => hk.2) (.string ((rd_T23 l0 (ji26)).f2))) (fun _ hk => hk.2) (.int .i64 ((rd_T23 l0 (ji26)).f3))) (fun _ hk => hk.2) (.int .i64 ((rd_T23 l0 (ji26)).f4))) (fun _ hk => hk.1.2)⟩, ⟨by (with_reducible repeat (first | refine kDN ?_ _ | refine kDr ?_ | refine kAl ?_ _)); refine blk_put (cs := #[.int .i64 ((rd_T23 l0 (ji26)).f0), .string ((rd_T23 l0 (ji26)).f1), .string ((rd_T23 l0 (ji26)).f2), .int .i64 ((rd_T23 l0 (ji26)).f3), .int .i64 0]) ?_ 4 _ rfl; (with_reducible repeat (first | refine kDN ?_ _ | refine kDr ?_ | refine kAl ?_ _)); refine blk_put (cs := #[.int .i64 ((rd_T23 l0 (ji26)).f0), .string ((rd_T23 l0 (ji26)).f1), .string ((rd_T23 l0 (ji26)).f2), .int .i64 0, .int .i64 0]) ?_ 3 _ rfl; (with_reducible repeat (first | refine kDN ?_ _ | refine kDr ?_ | refine kAl ?_ _)); refine blk_put (cs := #[.int .i64 ((rd_T23 l0 (ji26)).f0), .string ((rd_T23 l0 (ji26)).f1), .string (⟨#[]⟩ : ByteArray), .int .i64 0, .int .i64 0]) ?_ 2 _ rfl; (with_reducible repeat (first | refine kDN ?_ _ | refine kDr ?_ | refine kAl ?_ _)); refine blk_put (cs := #[.int .i64 ((rd_T23 l0 (ji26)).f0), .string (⟨#[]⟩ : ByteArray), .string (⟨#[]⟩ : ByteArray), .int .i64 0, .int .i64 0]) ?_ 1 _ rfl; (with_reducible repeat (first | refine kDN ?_ _ | refine kDr ?_ | refine kAl ?_ _)); refine blk_put (cs := #[.int .i64 0, .string (⟨#[]⟩ : ByteArray), .string (⟨#[]⟩ : ByteArray), .int .i64 0, .int .i64 0]) ?_ 0 _ rfl; (with_reducible repeat (first | refine kDN ?_ _ | refine kDr ?_ | refine kAl ?_ _)); exact BK462.out⟩, ⟨by repeat (first | (with_reducible first | exact HB.out | apply bAl | apply pbD | apply bD1 | refine bSt ?_ GE462.out) | exact HB.out)⟩⟩
                 case rest =>
                  clear HC36
                  try clear c1
                  try clear c2
                  try clear p2
                  try clear c3
                  try clear q3
                  try clear c4
                  try clear p4
                  try clear q4
                  try clear hx4
                  try clear c5
                  try clear c6
                  try clear p6
                  try clear c7
                  try clear c8
                  try clear c8b0
                  try clear c8b1
                  try clear c10
                  try clear c10b0
                  try clear c12
                  try clear c12b0
                  try clear c13
                  try clear c13b0
                  try clear c14
                  try clear c15
                  try clear c23
                  try clear c23b0
                  try clear c23b1
                  try clear c24
                  try clear c25
                  try clear c25b0
                  try clear c25b1
                  try clear c25b2
                  try clear c27
                  try clear c27b0
                  try clear c27b1
                  try clear c28
                  try clear c28b0
                  try clear c28b1
                  try clear c29
                  try clear c31
                  try clear c31b0
                  try clear c31b1
                  try clear c32
                  try clear c32b0
                  try clear c32b1
                  try clear c33
                  try clear c35
                  try clear c35b0
                  try clear q38
                  try clear c39
                  try clear q39
                  try clear p43
                  try clear q43
                  try clear hx43
                  try clear p46
                  try clear q46
                  try clear hx46
                  try clear c48
                  try clear c48b0
                  try clear c50
                  try clear c50b0
                  try clear c50b1
                  try clear hcz47_0
                  try clear hcz47_1
                  try clear hcz47_2
                  try clear hcz47_3
                  try clear hcz47_4
                  try clear hcz49_0
                  try clear hcz49_1
                  try clear hcz49_2
                  try clear hcz49_3
                  try clear hcz49_4
                  try clear hcz51_0
                  try clear hcz51_1
                  try clear hcz51_2
                  try clear hcz51_3
                  try clear hcz51_4
                  try clear hcz52_0
                  try clear hcz52_1
                  try clear hcz52_2
                  try clear hcz52_3
                  try clear hcz52_4
                  try clear hfz47_0
                  try clear hfz47_1
                  try clear hfz47_2
                  try clear hfz47_3
                  try clear hfz47_4
                  try clear hfz49_0
                  try clear hfz49_1
                  try clear hfz49_2
                  try clear hfz49_3
                  try clear hfz49_4
                  try clear hfz51_0
                  try clear hfz51_1
                  try clear hfz51_2
                  try clear hfz51_3
                  try clear hfz51_4
                  try clear hfz52_0
                  try clear hfz52_1
                  try clear hfz52_2
                  try clear hfz52_3
                  try clear hfz52_4
                  try clear hx433_0
                  try clear hx433_1
                  try clear hx433_2
                  try clear hx433_3
                  try clear hx433_4
                  try clear hx461_0
                  try clear hx461_1
                  try clear hx461_2
                  try clear hx461_3
                  try clear hx461_4
                  try clear p2
                  try clear p4
                  try clear p433
                  try clear p461
                  try clear p6
                  try clear q039
                  try clear q38
                  try clear q39
                  try clear q4
                  try clear q433
                  try clear q461
                  obtain ⟨kq, x16_35, rfl, HA, HJ35, HO_12, BK462, HB⟩ := hcut
                  cases kq with
                  | zero => exact absurd HA.out (by simp [w9_CheckParts.j2])
                  | succ kj35 =>
                   have H := HA.out
                   clear HA
                   simp only [w9_CheckParts.j2] at H
                   have HC53 := aK H
                   clear H
                   go_upto_region 19 with (fail)
                   go_cut [117] (fun v117 wc => ∃ (kq : Nat) (x117_52 : Bool), v117 = .bool x117_52 ∧ Aside0 (w9_CheckParts.j3 kq l0 x117_52 ((rd_T23 l0 (ji26)).f0) ((rd_T23 l0 (ji26)).f1) ((rd_T23 l0 (ji26)).f2) ((rd_T23 l0 (ji26)).f3) ((rd_T23 l0 (ji26)).f4) = some r) ∧ Aside0 (kq ≤ kj35) ∧ Aside0 (wc.heap[gb462]? = some (.cells #[.int .i64 ((rd_T23 l0 (ji26)).f0), .string ((rd_T23 l0 (ji26)).f1), .string ((rd_T23 l0 (ji26)).f2), .int .i64 ((rd_T23 l0 (ji26)).f3), .int .i64 ((rd_T23 l0 (ji26)).f4)] 23 (0, 0))) ∧ Aside0 (Below w.heap.size w wc))
                   case first =>
                    have H := HC53.out
                    clear HC53
                    by_cases c54 : x16_35 = true
                    ·
                     subst c54
                     have H1 : (if t460 = 6 then (if t459 = 0 then ((check_Missing.f y456).bind fun t463 => (if t463.toList = ((rd_T23 l0 (ji26)).f1).toList then (w9_CheckParts.j3 kj35 l0 false ((rd_T23 l0 (ji26)).f0) ((rd_T23 l0 (ji26)).f1) ((rd_T23 l0 (ji26)).f2) ((rd_T23 l0 (ji26)).f3) ((rd_T23 l0 (ji26)).f4)) else (w9_CheckParts.j3 kj35 l0 true ((rd_T23 l0 (ji26)).f0) ((rd_T23 l0 (ji26)).f1) ((rd_T23 l0 (ji26)).f2) ((rd_T23 l0 (ji26)).f3) ((rd_T23 l0 (ji26)).f4)))) else (w9_CheckParts.j3 kj35 l0 true ((rd_T23 l0 (ji26)).f0) ((rd_T23 l0 (ji26)).f1) ((rd_T23 l0 (ji26)).f2) ((rd_T23 l0 (ji26)).f3) ((rd_T23 l0 (ji26)).f4))) else (w9_CheckParts.j3 kj35 l0 true ((rd_T23 l0 (ji26)).f0) ((rd_T23 l0 (ji26)).f1) ((rd_T23 l0 (ji26)).f2) ((rd_T23 l0 (ji26)).f3) ((rd_T23 l0 (ji26)).f4))) = some r := by rw [if_pos rfl] at H; exact H
                     clear H
                     have H := H1
                     clear H1
                     by_cases c55 : t460 = 6
                     ·
                      rw [if_pos c55] at H
                      have c55b0 : (t460 == 6) = true := beq_iff_eq.mpr c55
                      have c55b1 : (t460 != 6) = false := bne_eq_false_iff_eq.mpr c55
                      clear c55
                      (first | rw [c55b0] | (simp only [i64_w, i32_w]; rw [c55b0]) | skip)
                      by_cases c56 : t459 = 0
                      ·
                       rw [if_pos c56] at H
                       have c56b0 : (t459 == 0) = true := beq_iff_eq.mpr c56
                       have c56b1 : (t459 != 0) = false := bne_eq_false_iff_eq.mpr c56
                       clear c56
                       replace H := Option.bind_eq_some_iff.mp H
                       obtain ⟨t463, A570, H⟩ := H
                       try dsimp only at H
                       have A57 := aK A570
                       clear A570
                       by_cases c58 : t463.toList = ((rd_T23 l0 (ji26)).f1).toList
                       ·
                        rw [if_pos c58] at H
                        have c58b0 : (t463.toList == ((rd_T23 l0 (ji26)).f1).toList) = true := beq_iff_eq.mpr c58
                        have c58b1 : (t463.toList != ((rd_T23 l0 (ji26)).f1).toList) = false := bne_eq_false_iff_eq.mpr c58
                        clear c58
                        have H' := aK H
                        clear H
                        try go_wp2
                        have n0_ := aK (Kd.R_drew HO_12.out)
                        have n1_ := aK (kDr BK462.out)
                        have n2_ := aK (bD1 HB.out)
                        clear HO_12
                        clear BK462
                        clear HB
                        have HO_12 := n0_
                        have BK462 := n1_
                        have HB := n2_
                        clear n0_ n1_ n2_
                        refine start_ (n := 24) (S := fun w' => w'.cell? ⟨gb462, 0, none⟩ = some (.int .i64 ((rd_T23 l0 (ji26)).f0)) ∧ w'.cell? ⟨gb462, 1, none⟩ = some (.string ((rd_T23 l0 (ji26)).f1)) ∧ w'.cell? ⟨gb462, 2, none⟩ = some (.string ((rd_T23 l0 (ji26)).f2)) ∧ w'.cell? ⟨gb462, 3, none⟩ = some (.int .i64 ((rd_T23 l0 (ji26)).f3)) ∧ w'.cell? ⟨gb462, 4, none⟩ = some (.int .i64 ((rd_T23 l0 (ji26)).f4))) (ds := []) z21_0 (by kernel_rfl) rfl rfl ⟨(kCe BK462.out 0).trans rfl, (kCe BK462.out 1).trans rfl, (kCe BK462.out 2).trans rfl, (kCe BK462.out 3).trans rfl, (kCe BK462.out 4).trans rfl⟩ (fun hHeld => ?_); refine with_tabW w9_CheckParts.tab19 w9_CheckParts.bits19 (fun HT_ HW_ => ?_)
                        generalize wc.drew = w59 at HO_12 BK462 HB hHeld ⊢
                        refine pure_ (i := 0) (N := some 94) (v := ?_) (a' := ?_) z21_1 rfl rfl (any_of HT_.out (by kernel_rfl)) (fun _ _ _ h => h) (Or.inl ⟨by rfl, ?_⟩) ?_ ?_
                        rotate_left
                        ·
                         intro w'
                         go_simp
                         with_reducible rfl
                        rotate_left
                        ·
                         simp only [Act.put, qSa, qS0, qS1, i64_w, i32_w]
                         rfl
                        refine pure_ (i := 1) (N := some 95) (v := ?_) (a' := ?_) z21_2 rfl rfl (any_of HT_.out (by kernel_rfl)) (fun _ _ _ h => h) (Or.inl ⟨by rfl, ?_⟩) ?_ ?_
                        rotate_left
                        ·
                         intro w'
                         go_simp
                         with_reducible rfl
                        rotate_left
                        ·
                         simp only [Act.put, qSa, qS0, qS1, i64_w, i32_w]
                         rfl
                        refine pure_ (i := 2) (N := some 96) (v := ?_) (a' := ?_) z21_3 rfl rfl (any_of HT_.out (by kernel_rfl)) (fun _ _ _ h => h) (Or.inl ⟨by rfl, ?_⟩) ?_ ?_
                        rotate_left
                        ·
                         intro w'
                         go_simp
                         with_reducible rfl
                        rotate_left
                        ·
                         simp only [Act.put, qSa, qS0, qS1, i64_w, i32_w]
                         rfl
                        refine pure_ (i := 3) (N := some 97) (v := ?_) (a' := ?_) z21_4 rfl rfl (any_of HT_.out (by kernel_rfl)) (fun _ _ _ h => h) (Or.inl ⟨by rfl, ?_⟩) ?_ ?_
                        rotate_left
                        ·
                         intro w'
                         go_simp
                         with_reducible rfl
                        rotate_left
                        ·
                         simp only [Act.put, qSa, qS0, qS1, i64_w, i32_w]
                         rfl
                        refine pure_ (i := 4) (N := some 98) (v := ?_) (a' := ?_) z21_5 rfl rfl (any_of HT_.out (by kernel_rfl)) (fun _ _ _ h => h) (Or.inl ⟨by rfl, ?_⟩) ?_ ?_
                        rotate_left
                        ·
                         intro w'
                         go_simp
                         with_reducible rfl
                        rotate_left
                        ·
                         simp only [Act.put, qSa, qS0, qS1, i64_w, i32_w]
                         rfl
                        refine pure_ (i := 5) (N := some 99) (v := ?_) (a' := ?_) z21_6 rfl rfl (any_of HT_.out (by kernel_rfl)) (fun _ _ _ h => h) (Or.inl ⟨by rfl, ?_⟩) ?_ ?_
                        rotate_left
                        ·
                         intro w'
                         go_simp
                         with_reducible rfl
                        rotate_left
                        ·
                         simp only [Act.put, qSa, qS0, qS1, i64_w, i32_w]
                         rfl
                        refine pure_ (i := 6) (N := some 100) (v := ?_) (a' := ?_) z21_7 rfl rfl (any_of HT_.out (by kernel_rfl)) (fun _ _ _ h => h) (Or.inl ⟨by rfl, ?_⟩) ?_ ?_
                        rotate_left
                        ·
                         intro w'
                         go_simp
                         with_reducible rfl
                        rotate_left
                        ·
                         simp only [Act.put, qSa, qS0, qS1, i64_w, i32_w]
                         rfl
                        refine pure_ (i := 7) (N := some 101) (v := ?_) (a' := ?_) z21_8 rfl rfl (any_of HT_.out (by kernel_rfl)) (fun _ _ _ h => h) (Or.inl ⟨by rfl, ?_⟩) ?_ ?_
                        rotate_left
                        ·
                         intro w'
                         go_simp
                         with_reducible rfl
                        rotate_left
                        ·
                         simp only [Act.put, qSa, qS0, qS1, i64_w, i32_w]
                         rfl
                        refine pure_ (i := 8) (N := some 102) (v := ?_) (a' := ?_) z21_9 rfl rfl (any_of HT_.out (by kernel_rfl)) (fun _ _ _ h => h) (Or.inl ⟨by rfl, ?_⟩) ?_ ?_
                        rotate_left
                        ·
                         intro w'
                         go_simp
                         with_reducible rfl
                        rotate_left
                        ·
                         simp only [Act.put, qSa, qS0, qS1, i64_w, i32_w]
                         rfl
                        refine pure_ (i := 9) (N := some 103) (v := ?_) (a' := ?_) z21_10 rfl rfl (any_of HT_.out (by kernel_rfl)) (fun _ _ _ h => h) (Or.inl ⟨by rfl, ?_⟩) ?_ ?_
                        rotate_left
                        ·
                         intro w'
                         go_simp
                         with_reducible rfl
                        rotate_left
                        ·
                         simp only [Act.put, qSa, qS0, qS1, i64_w, i32_w]
                         rfl
                        refine pure_ (i := 11) (N := some 105) (v := ?_) (a' := ?_) z21_26 rfl rfl (any_of HT_.out (by kernel_rfl)) (fun _ _ _ h => h) (Or.inl ⟨by rfl, ?_⟩) ?_ ?_
                        rotate_left
                        ·
                         intro w'
                         go_simp
                         with_reducible rfl
                        rotate_left
                        ·
                         simp only [Act.put, qSa, qS0, qS1, i64_w, i32_w]
                         rfl
                        refine take_ (i := 12) (N := some 106) (v := ?_) (a' := ?_) z21_27 rfl rfl (take_ofW HT_.out HW_.out (by kernel_rfl)) (fun _ _ _ h => h) (Or.inl ⟨by rfl, ?_⟩) hHeld ?_ ?_
                        rotate_left
                        ·
                         rintro w' ⟨s0, s1, s2, s3, s4⟩
                         go_simp
                         with_reducible rfl
                        rotate_left
                        ·
                         simp only [Act.put, qSa, qS0, qS1, i64_w, i32_w]
                         rfl
                        refine one_ (i := 10) (N := some 104) z21_11 rfl rfl (one_of HT_.out (by kernel_rfl)) (by decide) (fun K hK => ?_)
                        refine goes_ Try.func17 (by kernel_rfl) rfl #[.slice Ao44 y456.length co44] (by rfl) rfl rfl (by (try simp only [List.map_toArray, List.map_cons, List.map_nil]); first | done | rfl | (simp only [List.length_drop, List.length_take]; rfl)) ?_
                        with_reducible refine (check_Missing.calls _ _ y456 t463 _ ?side1 ?side2 A57.out).mono ?_
                        (case side1 => repeat (first | exact (Kd.R_reads' HO_12.out).2.2 | (with_reducible refine Kd.C_alloc ?_ _) | (with_reducible refine Kd.C_drewN ?_ _) | (with_reducible refine Kd.C_drew ?_)))
                        (case side2 => exact (Kd.R_reads' HO_12.out).2.1)
                        rintro e w60 ⟨rfl, hb⟩
                        refine ⟨_, rfl, ?_⟩
                        have n0_ := aK (Kd.R_below (by (with_reducible repeat (first | apply Kd.R_alloc | apply Kd.R_drewN | apply Kd.R_drew)); exact HO_12.out) hb)
                        have n1_ := aK (kBe (g := gb462) (o := .cells #[.int .i64 ((rd_T23 l0 (ji26)).f0), .string ((rd_T23 l0 (ji26)).f1), .string ((rd_T23 l0 (ji26)).f2), .int .i64 ((rd_T23 l0 (ji26)).f3), .int .i64 ((rd_T23 l0 (ji26)).f4)] 23 (0, 0)) (by (with_reducible repeat (first | refine kDN ?_ _ | refine kDr ?_ | refine kAl ?_ _)); exact BK462.out) hb)
                        have n2_ := aK (bSp (by repeat (first | (with_reducible first | exact HB.out | apply bAl | apply pbD | apply bD1 | refine bSt ?_ GE462.out) | exact HB.out)) hb)
                        clear HO_12
                        clear BK462
                        clear HB
                        have HO_12 := n0_
                        have BK462 := n1_
                        have HB := n2_
                        clear n0_ n1_ n2_
                        (try clear hb)
                        (try clear hb2)
                        (try clear hk)
                        (try clear hi)
                        refine hK.out _ _ ⟨(kCe BK462.out 0).trans rfl, (kCe BK462.out 1).trans rfl, (kCe BK462.out 2).trans rfl, (kCe BK462.out 3).trans rfl, (kCe BK462.out 4).trans rfl⟩ (fun hHeld => ?_)
                        clear hK K
                        refine norm_ (a' := ?_) ?_ ?_
                        rotate_left
                        ·
                         show Act.put _ (some 104) _ = _
                         simp only [Act.put, qSa, qS0, qS1, i64_w, i32_w]
                         rfl
                        refine pure_ (i := 13) (N := some 107) (v := ?_) (a' := ?_) z21_12 rfl rfl (any_of HT_.out (by kernel_rfl)) (fun _ _ _ h => h) (Or.inl ⟨by rfl, ?_⟩) ?_ ?_
                        rotate_left
                        ·
                         intro w'
                         go_simp
                         with_reducible rfl
                        rotate_left
                        ·
                         simp only [Act.put, qSa, qS0, qS1, i64_w, i32_w]
                         rfl
                        refine pure_ (i := 14) (N := some 108) (v := ?_) (a' := ?_) z21_13 rfl rfl (any_of HT_.out (by kernel_rfl)) (fun _ _ _ h => h) (Or.inl ⟨by rfl, ?_⟩) ?_ ?_
                        rotate_left
                        ·
                         intro w'
                         go_simp
                         with_reducible rfl
                        rotate_left
                        ·
                         simp only [Act.put, qSa, qS0, qS1, i64_w, i32_w]
                         rfl
                        refine pure_ (i := 15) (N := some 109) (v := ?_) (a' := ?_) z21_14 rfl rfl (any_of HT_.out (by kernel_rfl)) (fun _ _ _ h => h) (Or.inl ⟨by rfl, ?_⟩) ?_ ?_
                        rotate_left
                        ·
                         intro w'
                         go_simp
                         with_reducible rfl
                        rotate_left
                        ·
                         simp only [Act.put, qSa, qS0, qS1, i64_w, i32_w]
                         rfl
                        refine pure_ (i := 16) (N := some 110) (v := ?_) (a' := ?_) z21_15 rfl rfl (any_of HT_.out (by kernel_rfl)) (fun _ _ _ h => h) (Or.inl ⟨by rfl, ?_⟩) ?_ ?_
                        rotate_left
                        ·
                         intro w'
                         go_simp
                         with_reducible rfl
                        rotate_left
                        ·
                         simp only [Act.put, qSa, qS0, qS1, i64_w, i32_w]
                         rfl
                        refine pure_ (i := 17) (N := some 111) (v := ?_) (a' := ?_) z21_16 rfl rfl (any_of HT_.out (by kernel_rfl)) (fun _ _ _ h => h) (Or.inl ⟨by rfl, ?_⟩) ?_ ?_
                        rotate_left
                        ·
                         intro w'
                         go_simp
                         with_reducible rfl
                        rotate_left
                        ·
                         simp only [Act.put, qSa, qS0, qS1, i64_w, i32_w]
                         rfl
                        refine pure_ (i := 18) (N := some 112) (v := ?_) (a' := ?_) z21_17 rfl rfl (any_of HT_.out (by kernel_rfl)) (fun _ _ _ h => h) (Or.inl ⟨by rfl, ?_⟩) ?_ ?_
                        rotate_left
                        ·
                         intro w'
                         go_simp
                         with_reducible rfl
                        rotate_left
                        ·
                         simp only [Act.put, qSa, qS0, qS1, i64_w, i32_w]
                         rfl
                        refine pure_ (i := 19) (N := some 113) (v := ?_) (a' := ?_) z21_18 rfl rfl (any_of HT_.out (by kernel_rfl)) (fun _ _ _ h => h) (Or.inl ⟨by rfl, ?_⟩) ?_ ?_
                        rotate_left
                        ·
                         intro w'
                         go_simp
                         with_reducible rfl
                        rotate_left
                        ·
                         simp only [Act.put, qSa, qS0, qS1, i64_w, i32_w]
                         rfl
                        refine pure_ (i := 20) (N := some 114) (v := undef) (a' := ?_) z21_19 rfl rfl (any_of HT_.out (by kernel_rfl)) (fun _ _ _ h => h) (Or.inr ⟨by rfl, rfl⟩) ?_ ?_
                        rotate_left
                        ·
                         simp only [Act.put, qSa, qS0, qS1, i64_w, i32_w]
                         rfl
                        refine pure_ (i := 21) (N := some 115) (v := undef) (a' := ?_) z21_20 rfl rfl (any_of HT_.out (by kernel_rfl)) (fun _ _ _ h => h) (Or.inr ⟨by rfl, rfl⟩) ?_ ?_
                        rotate_left
                        ·
                         simp only [Act.put, qSa, qS0, qS1, i64_w, i32_w]
                         rfl
                        refine pure_ (i := 22) (N := some 116) (v := ?_) (a' := ?_) z21_21 rfl rfl (any_of HT_.out (by kernel_rfl)) (fun _ _ _ h => h) (Or.inl ⟨by rfl, ?_⟩) ?_ ?_
                        rotate_left
                        ·
                         intro w'
                         go_simp
                         with_reducible rfl
                        rotate_left
                        ·
                         simp only [Act.put, qSa, qS0, qS1, i64_w, i32_w]
                         rfl
                        refine pure_ (i := 23) (N := some 117) (v := ?_) (a' := ?_) z21_22 rfl rfl (any_of HT_.out (by kernel_rfl)) (fun _ _ _ h => h) (Or.inl ⟨by rfl, ?_⟩) ?_ ?_
                        rotate_left
                        ·
                         intro w'
                         go_simp
                         with_reducible rfl
                        rotate_left
                        ·
                         simp only [Act.put, qSa, qS0, qS1, i64_w, i32_w]
                         rfl
                        refine done_ (done_of HT_.out (by kernel_rfl)) ?_
                        try go_wp2
                        go_meet
                        case rel => exact ⟨_, (false), (by first | rfl | (simp; done) | (simp [*]; done)), H', ⟨by have := HK1.out; have := HJ19.out; have := HJ35.out; first | omega | exact Nat.le_refl _⟩, ⟨by (with_reducible repeat (first | refine kDN ?_ _ | refine kDr ?_ | refine kAl ?_ _)); exact BK462.out⟩, ⟨by repeat (first | (with_reducible first | exact HB.out | apply bAl | apply pbD | apply bD1 | refine bSt ?_ GE462.out) | exact HB.out)⟩⟩
                       ·
                        rw [if_neg c58] at H
                        have c58b0 : (t463.toList == ((rd_T23 l0 (ji26)).f1).toList) = false := beq_eq_false_iff_ne.mpr c58
                        have c58b1 : (t463.toList != ((rd_T23 l0 (ji26)).f1).toList) = true := bne_iff_ne.mpr c58
                        have H' := aK H
                        clear H
                        try go_wp2
                        have n0_ := aK (Kd.R_drew HO_12.out)
                        have n1_ := aK (kDr BK462.out)
                        have n2_ := aK (bD1 HB.out)
                        clear HO_12
                        clear BK462
                        clear HB
                        have HO_12 := n0_
                        have BK462 := n1_
                        have HB := n2_
                        clear n0_ n1_ n2_
                        refine start_ (n := 24) (S := fun w' => w'.cell? ⟨gb462, 0, none⟩ = some (.int .i64 ((rd_T23 l0 (ji26)).f0)) ∧ w'.cell? ⟨gb462, 1, none⟩ = some (.string ((rd_T23 l0 (ji26)).f1)) ∧ w'.cell? ⟨gb462, 2, none⟩ = some (.string ((rd_T23 l0 (ji26)).f2)) ∧ w'.cell? ⟨gb462, 3, none⟩ = some (.int .i64 ((rd_T23 l0 (ji26)).f3)) ∧ w'.cell? ⟨gb462, 4, none⟩ = some (.int .i64 ((rd_T23 l0 (ji26)).f4))) (ds := []) z21_0 (by kernel_rfl) rfl rfl ⟨(kCe BK462.out 0).trans rfl, (kCe BK462.out 1).trans rfl, (kCe BK462.out 2).trans rfl, (kCe BK462.out 3).trans rfl, (kCe BK462.out 4).trans rfl⟩ (fun hHeld => ?_); refine with_tabW w9_CheckParts.tab19 w9_CheckParts.bits19 (fun HT_ HW_ => ?_)
                        generalize wc.drew = w61 at HO_12 BK462 HB hHeld ⊢
                        refine pure_ (i := 0) (N := some 94) (v := ?_) (a' := ?_) z21_1 rfl rfl (any_of HT_.out (by kernel_rfl)) (fun _ _ _ h => h) (Or.inl ⟨by rfl, ?_⟩) ?_ ?_
                        rotate_left
                        ·
                         intro w'
                         go_simp
                         with_reducible rfl
                        rotate_left
                        ·
                         simp only [Act.put, qSa, qS0, qS1, i64_w, i32_w]
                         rfl
                        refine pure_ (i := 1) (N := some 95) (v := ?_) (a' := ?_) z21_2 rfl rfl (any_of HT_.out (by kernel_rfl)) (fun _ _ _ h => h) (Or.inl ⟨by rfl, ?_⟩) ?_ ?_
                        rotate_left
                        ·
                         intro w'
                         go_simp
                         with_reducible rfl
                        rotate_left
                        ·
                         simp only [Act.put, qSa, qS0, qS1, i64_w, i32_w]
                         rfl
                        refine pure_ (i := 2) (N := some 96) (v := ?_) (a' := ?_) z21_3 rfl rfl (any_of HT_.out (by kernel_rfl)) (fun _ _ _ h => h) (Or.inl ⟨by rfl, ?_⟩) ?_ ?_
                        rotate_left
                        ·
                         intro w'
                         go_simp
                         with_reducible rfl
                        rotate_left
                        ·
                         simp only [Act.put, qSa, qS0, qS1, i64_w, i32_w]
                         rfl
                        refine pure_ (i := 3) (N := some 97) (v := ?_) (a' := ?_) z21_4 rfl rfl (any_of HT_.out (by kernel_rfl)) (fun _ _ _ h => h) (Or.inl ⟨by rfl, ?_⟩) ?_ ?_
                        rotate_left
                        ·
                         intro w'
                         go_simp
                         with_reducible rfl
                        rotate_left
                        ·
                         simp only [Act.put, qSa, qS0, qS1, i64_w, i32_w]
                         rfl
                        refine pure_ (i := 4) (N := some 98) (v := ?_) (a' := ?_) z21_5 rfl rfl (any_of HT_.out (by kernel_rfl)) (fun _ _ _ h => h) (Or.inl ⟨by rfl, ?_⟩) ?_ ?_
                        rotate_left
                        ·
                         intro w'
                         go_simp
                         with_reducible rfl
                        rotate_left
                        ·
                         simp only [Act.put, qSa, qS0, qS1, i64_w, i32_w]
                         rfl
                        refine pure_ (i := 5) (N := some 99) (v := ?_) (a' := ?_) z21_6 rfl rfl (any_of HT_.out (by kernel_rfl)) (fun _ _ _ h => h) (Or.inl ⟨by rfl, ?_⟩) ?_ ?_
                        rotate_left
                        ·
                         intro w'
                         go_simp
                         with_reducible rfl
                        rotate_left
                        ·
                         simp only [Act.put, qSa, qS0, qS1, i64_w, i32_w]
                         rfl
                        refine pure_ (i := 6) (N := some 100) (v := ?_) (a' := ?_) z21_7 rfl rfl (any_of HT_.out (by kernel_rfl)) (fun _ _ _ h => h) (Or.inl ⟨by rfl, ?_⟩) ?_ ?_
                        rotate_left
                        ·
                         intro w'
                         go_simp
                         with_reducible rfl
                        rotate_left
                        ·
                         simp only [Act.put, qSa, qS0, qS1, i64_w, i32_w]
                         rfl
                        refine pure_ (i := 7) (N := some 101) (v := ?_) (a' := ?_) z21_8 rfl rfl (any_of HT_.out (by kernel_rfl)) (fun _ _ _ h => h) (Or.inl ⟨by rfl, ?_⟩) ?_ ?_
                        rotate_left
                        ·
                         intro w'
                         go_simp
                         with_reducible rfl
                        rotate_left
                        ·
                         simp only [Act.put, qSa, qS0, qS1, i64_w, i32_w]
                         rfl
                        refine pure_ (i := 8) (N := some 102) (v := ?_) (a' := ?_) z21_9 rfl rfl (any_of HT_.out (by kernel_rfl)) (fun _ _ _ h => h) (Or.inl ⟨by rfl, ?_⟩) ?_ ?_
                        rotate_left
                        ·
                         intro w'
                         go_simp
                         with_reducible rfl
                        rotate_left
                        ·
                         simp only [Act.put, qSa, qS0, qS1, i64_w, i32_w]
                         rfl
                        refine pure_ (i := 9) (N := some 103) (v := ?_) (a' := ?_) z21_10 rfl rfl (any_of HT_.out (by kernel_rfl)) (fun _ _ _ h => h) (Or.inl ⟨by rfl, ?_⟩) ?_ ?_
                        rotate_left
                        ·
                         intro w'
                         go_simp
                         with_reducible rfl
                        rotate_left
                        ·
                         simp only [Act.put, qSa, qS0, qS1, i64_w, i32_w]
                         rfl
                        refine pure_ (i := 11) (N := some 105) (v := ?_) (a' := ?_) z21_26 rfl rfl (any_of HT_.out (by kernel_rfl)) (fun _ _ _ h => h) (Or.inl ⟨by rfl, ?_⟩) ?_ ?_
                        rotate_left
                        ·
                         intro w'
                         go_simp
                         with_reducible rfl
                        rotate_left
                        ·
                         simp only [Act.put, qSa, qS0, qS1, i64_w, i32_w]
                         rfl
                        refine take_ (i := 12) (N := some 106) (v := ?_) (a' := ?_) z21_27 rfl rfl (take_ofW HT_.out HW_.out (by kernel_rfl)) (fun _ _ _ h => h) (Or.inl ⟨by rfl, ?_⟩) hHeld ?_ ?_
                        rotate_left
                        ·
                         rintro w' ⟨s0, s1, s2, s3, s4⟩
                         go_simp
                         with_reducible rfl
                        rotate_left
                        ·
                         simp only [Act.put, qSa, qS0, qS1, i64_w, i32_w]
                         rfl
                        refine one_ (i := 10) (N := some 104) z21_11 rfl rfl (one_of HT_.out (by kernel_rfl)) (by decide) (fun K hK => ?_)
                        refine goes_ Try.func17 (by kernel_rfl) rfl #[.slice Ao44 y456.length co44] (by rfl) rfl rfl (by (try simp only [List.map_toArray, List.map_cons, List.map_nil]); first | done | rfl | (simp only [List.length_drop, List.length_take]; rfl)) ?_
                        with_reducible refine (check_Missing.calls _ _ y456 t463 _ ?side1 ?side2 A57.out).mono ?_
                        (case side1 => repeat (first | exact (Kd.R_reads' HO_12.out).2.2 | (with_reducible refine Kd.C_alloc ?_ _) | (with_reducible refine Kd.C_drewN ?_ _) | (with_reducible refine Kd.C_drew ?_)))
                        (case side2 => exact (Kd.R_reads' HO_12.out).2.1)
                        rintro e w62 ⟨rfl, hb⟩
                        refine ⟨_, rfl, ?_⟩
                        have n0_ := aK (Kd.R_below (by (with_reducible repeat (first | apply Kd.R_alloc | apply Kd.R_drewN | apply Kd.R_drew)); exact HO_12.out) hb)
                        have n1_ := aK (kBe (g := gb462) (o := .cells #[.int .i64 ((rd_T23 l0 (ji26)).f0), .string ((rd_T23 l0 (ji26)).f1), .string ((rd_T23 l0 (ji26)).f2), .int .i64 ((rd_T23 l0 (ji26)).f3), .int .i64 ((rd_T23 l0 (ji26)).f4)] 23 (0, 0)) (by (with_reducible repeat (first | refine kDN ?_ _ | refine kDr ?_ | refine kAl ?_ _)); exact BK462.out) hb)
                        have n2_ := aK (bSp (by repeat (first | (with_reducible first | exact HB.out | apply bAl | apply pbD | apply bD1 | refine bSt ?_ GE462.out) | exact HB.out)) hb)
                        clear HO_12
                        clear BK462
                        clear HB
                        have HO_12 := n0_
                        have BK462 := n1_
                        have HB := n2_
                        clear n0_ n1_ n2_
                        (try clear hb)
                        (try clear hb2)
                        (try clear hk)
                        (try clear hi)
                        refine hK.out _ _ ⟨(kCe BK462.out 0).trans rfl, (kCe BK462.out 1).trans rfl, (kCe BK462.out 2).trans rfl, (kCe BK462.out 3).trans rfl, (kCe BK462.out 4).trans rfl⟩ (fun hHeld => ?_)
                        clear hK K
                        refine norm_ (a' := ?_) ?_ ?_
                        rotate_left
                        ·
                         show Act.put _ (some 104) _ = _
                         simp only [Act.put, qSa, qS0, qS1, i64_w, i32_w]
                         rfl
                        refine pure_ (i := 13) (N := some 107) (v := ?_) (a' := ?_) z21_12 rfl rfl (any_of HT_.out (by kernel_rfl)) (fun _ _ _ h => h) (Or.inl ⟨by rfl, ?_⟩) ?_ ?_
                        rotate_left
                        ·
                         intro w'
                         go_simp
                         with_reducible rfl
                        rotate_left
                        ·
                         simp only [Act.put, qSa, qS0, qS1, i64_w, i32_w]
                         rfl
                        refine pure_ (i := 14) (N := some 108) (v := ?_) (a' := ?_) z21_13 rfl rfl (any_of HT_.out (by kernel_rfl)) (fun _ _ _ h => h) (Or.inl ⟨by rfl, ?_⟩) ?_ ?_
                        rotate_left
                        ·
                         intro w'
                         go_simp
                         with_reducible rfl
                        rotate_left
                        ·
                         simp only [Act.put, qSa, qS0, qS1, i64_w, i32_w]
                         rfl
                        refine pure_ (i := 15) (N := some 109) (v := ?_) (a' := ?_) z21_14 rfl rfl (any_of HT_.out (by kernel_rfl)) (fun _ _ _ h => h) (Or.inl ⟨by rfl, ?_⟩) ?_ ?_
                        rotate_left
                        ·
                         intro w'
                         go_simp
                         with_reducible rfl
                        rotate_left
                        ·
                         simp only [Act.put, qSa, qS0, qS1, i64_w, i32_w]
                         rfl
                        refine pure_ (i := 16) (N := some 110) (v := ?_) (a' := ?_) z21_15 rfl rfl (any_of HT_.out (by kernel_rfl)) (fun _ _ _ h => h) (Or.inl ⟨by rfl, ?_⟩) ?_ ?_
                        rotate_left
                        ·
                         intro w'
                         go_simp
                         with_reducible rfl
                        rotate_left
                        ·
                         simp only [Act.put, qSa, qS0, qS1, i64_w, i32_w]
                         rfl
                        refine pure_ (i := 17) (N := some 111) (v := undef) (a' := ?_) z21_16 rfl rfl (any_of HT_.out (by kernel_rfl)) (fun _ _ _ h => h) (Or.inr ⟨by rfl, rfl⟩) ?_ ?_
                        rotate_left
                        ·
                         simp only [Act.put, qSa, qS0, qS1, i64_w, i32_w]
                         rfl
                        refine pure_ (i := 18) (N := some 112) (v := undef) (a' := ?_) z21_17 rfl rfl (any_of HT_.out (by kernel_rfl)) (fun _ _ _ h => h) (Or.inr ⟨by rfl, rfl⟩) ?_ ?_
                        rotate_left
                        ·
                         simp only [Act.put, qSa, qS0, qS1, i64_w, i32_w]
                         rfl
                        refine pure_ (i := 19) (N := some 113) (v := undef) (a' := ?_) z21_18 rfl rfl (any_of HT_.out (by kernel_rfl)) (fun _ _ _ h => h) (Or.inr ⟨by rfl, rfl⟩) ?_ ?_
                        rotate_left
                        ·
                         simp only [Act.put, qSa, qS0, qS1, i64_w, i32_w]
                         rfl
                        refine pure_ (i := 20) (N := some 114) (v := undef) (a' := ?_) z21_19 rfl rfl (any_of HT_.out (by kernel_rfl)) (fun _ _ _ h => h) (Or.inr ⟨by rfl, rfl⟩) ?_ ?_
                        rotate_left
                        ·
                         simp only [Act.put, qSa, qS0, qS1, i64_w, i32_w]
                         rfl
                        refine pure_ (i := 21) (N := some 115) (v := undef) (a' := ?_) z21_20 rfl rfl (any_of HT_.out (by kernel_rfl)) (fun _ _ _ h => h) (Or.inr ⟨by rfl, rfl⟩) ?_ ?_
                        rotate_left
                        ·
                         simp only [Act.put, qSa, qS0, qS1, i64_w, i32_w]
                         rfl
                        refine pure_ (i := 22) (N := some 116) (v := undef) (a' := ?_) z21_21 rfl rfl (any_of HT_.out (by kernel_rfl)) (fun _ _ _ h => h) (Or.inr ⟨by rfl, rfl⟩) ?_ ?_
                        rotate_left
                        ·
                         simp only [Act.put, qSa, qS0, qS1, i64_w, i32_w]
                         rfl
                        refine pure_ (i := 23) (N := some 117) (v := ?_) (a' := ?_) z21_22 rfl rfl (any_of HT_.out (by kernel_rfl)) (fun _ _ _ h => h) (Or.inl ⟨by rfl, ?_⟩) ?_ ?_
                        rotate_left
                        ·
                         intro w'
                         go_simp
                         with_reducible rfl
                        rotate_left
                        ·
                         simp only [Act.put, qSa, qS0, qS1, i64_w, i32_w]
                         rfl
                        refine done_ (done_of HT_.out (by kernel_rfl)) ?_
                        try go_wp2
                        go_meet
                        case rel => exact ⟨_, (true), (by first | rfl | (simp; done) | (simp [*]; done)), H', ⟨by have := HK1.out; have := HJ19.out; have := HJ35.out; first | omega | exact Nat.le_refl _⟩, ⟨by (with_reducible repeat (first | refine kDN ?_ _ | refine kDr ?_ | refine kAl ?_ _)); exact BK462.out⟩, ⟨by repeat (first | (with_reducible first | exact HB.out | apply bAl | apply pbD | apply bD1 | refine bSt ?_ GE462.out) | exact HB.out)⟩⟩
                      ·
                       rw [if_neg c56] at H
                       have c56b0 : (t459 == 0) = false := beq_eq_false_iff_ne.mpr c56
                       have c56b1 : (t459 != 0) = true := bne_iff_ne.mpr c56
                       have H' := aK H
                       clear H
                       try go_wp2
                       have n0_ := aK (Kd.R_drew HO_12.out)
                       have n1_ := aK (kDr BK462.out)
                       have n2_ := aK (bD1 HB.out)
                       clear HO_12
                       clear BK462
                       clear HB
                       have HO_12 := n0_
                       have BK462 := n1_
                       have HB := n2_
                       clear n0_ n1_ n2_
                       refine start_ (n := 24) (S := fun w' => True) (ds := []) z21_0 (by kernel_rfl) rfl rfl trivial (fun hHeld => ?_); refine with_tabW w9_CheckParts.tab19 w9_CheckParts.bits19 (fun HT_ HW_ => ?_)
                       generalize wc.drew = w63 at HO_12 BK462 HB hHeld ⊢
                       refine pure_ (i := 0) (N := some 94) (v := ?_) (a' := ?_) z21_1 rfl rfl (any_of HT_.out (by kernel_rfl)) (fun _ _ _ h => h) (Or.inl ⟨by rfl, ?_⟩) ?_ ?_
                       rotate_left
                       ·
                        intro w'
                        go_simp
                        with_reducible rfl
                       rotate_left
                       ·
                        simp only [Act.put, qSa, qS0, qS1, i64_w, i32_w]
                        rfl
                       refine pure_ (i := 1) (N := some 95) (v := ?_) (a' := ?_) z21_2 rfl rfl (any_of HT_.out (by kernel_rfl)) (fun _ _ _ h => h) (Or.inl ⟨by rfl, ?_⟩) ?_ ?_
                       rotate_left
                       ·
                        intro w'
                        go_simp
                        with_reducible rfl
                       rotate_left
                       ·
                        simp only [Act.put, qSa, qS0, qS1, i64_w, i32_w]
                        rfl
                       refine pure_ (i := 2) (N := some 96) (v := ?_) (a' := ?_) z21_3 rfl rfl (any_of HT_.out (by kernel_rfl)) (fun _ _ _ h => h) (Or.inl ⟨by rfl, ?_⟩) ?_ ?_
                       rotate_left
                       ·
                        intro w'
                        go_simp
                        with_reducible rfl
                       rotate_left
                       ·
                        simp only [Act.put, qSa, qS0, qS1, i64_w, i32_w]
                        rfl
                       refine pure_ (i := 3) (N := some 97) (v := ?_) (a' := ?_) z21_4 rfl rfl (any_of HT_.out (by kernel_rfl)) (fun _ _ _ h => h) (Or.inl ⟨by rfl, ?_⟩) ?_ ?_
                       rotate_left
                       ·
                        intro w'
                        go_simp
                        with_reducible rfl
                       rotate_left
                       ·
                        simp only [Act.put, qSa, qS0, qS1, i64_w, i32_w]
                        rfl
                       refine pure_ (i := 4) (N := some 98) (v := ?_) (a' := ?_) z21_5 rfl rfl (any_of HT_.out (by kernel_rfl)) (fun _ _ _ h => h) (Or.inl ⟨by rfl, ?_⟩) ?_ ?_
                       rotate_left
                       ·
                        intro w'
                        go_simp
                        with_reducible rfl
                       rotate_left
                       ·
                        simp only [Act.put, qSa, qS0, qS1, i64_w, i32_w]
                        rfl
                       refine pure_ (i := 5) (N := some 99) (v := ?_) (a' := ?_) z21_6 rfl rfl (any_of HT_.out (by kernel_rfl)) (fun _ _ _ h => h) (Or.inl ⟨by rfl, ?_⟩) ?_ ?_
                       rotate_left
                       ·
                        intro w'
                        go_simp
                        with_reducible rfl
                       rotate_left
                       ·
                        simp only [Act.put, qSa, qS0, qS1, i64_w, i32_w]
                        rfl
                       refine pure_ (i := 6) (N := some 100) (v := ?_) (a' := ?_) z21_7 rfl rfl (any_of HT_.out (by kernel_rfl)) (fun _ _ _ h => h) (Or.inl ⟨by rfl, ?_⟩) ?_ ?_
                       rotate_left
                       ·
                        intro w'
                        go_simp
                        with_reducible rfl
                       rotate_left
                       ·
                        simp only [Act.put, qSa, qS0, qS1, i64_w, i32_w]
                        rfl
                       refine pure_ (i := 7) (N := some 101) (v := ?_) (a' := ?_) z21_8 rfl rfl (any_of HT_.out (by kernel_rfl)) (fun _ _ _ h => h) (Or.inl ⟨by rfl, ?_⟩) ?_ ?_
                       rotate_left
                       ·
                        intro w'
                        go_simp
                        with_reducible rfl
                       rotate_left
                       ·
                        simp only [Act.put, qSa, qS0, qS1, i64_w, i32_w]
                        rfl
                       refine pure_ (i := 8) (N := some 102) (v := ?_) (a' := ?_) z21_9 rfl rfl (any_of HT_.out (by kernel_rfl)) (fun _ _ _ h => h) (Or.inl ⟨by rfl, ?_⟩) ?_ ?_
                       rotate_left
                       ·
                        intro w'
                        go_simp
                        with_reducible rfl
                       rotate_left
                       ·
                        simp only [Act.put, qSa, qS0, qS1, i64_w, i32_w]
                        rfl
                       refine pure_ (i := 9) (N := some 103) (v := undef) (a' := ?_) z21_10 rfl rfl (any_of HT_.out (by kernel_rfl)) (fun _ _ _ h => h) (Or.inr ⟨by rfl, rfl⟩) ?_ ?_
                       rotate_left
                       ·
                        simp only [Act.put, qSa, qS0, qS1, i64_w, i32_w]
                        rfl
                       refine pure_ (i := 10) (N := some 104) (v := undef) (a' := ?_) z21_23 rfl rfl (any_of HT_.out (by kernel_rfl)) (fun _ _ _ h => h) (Or.inr ⟨by rfl, rfl⟩) ?_ ?_
                       rotate_left
                       ·
                        simp only [Act.put, qSa, qS0, qS1, i64_w, i32_w]
                        rfl
                       refine pure_ (i := 11) (N := some 105) (v := undef) (a' := ?_) z21_24 rfl rfl (any_of HT_.out (by kernel_rfl)) (fun _ _ _ h => h) (Or.inr ⟨by rfl, rfl⟩) ?_ ?_
                       rotate_left
                       ·
                        simp only [Act.put, qSa, qS0, qS1, i64_w, i32_w]
                        rfl
                       refine pure_ (i := 12) (N := some 106) (v := undef) (a' := ?_) z21_11 rfl rfl (any_of HT_.out (by kernel_rfl)) (fun _ _ _ h => h) (Or.inr ⟨by rfl, rfl⟩) ?_ ?_
                       rotate_left
                       ·
                        simp only [Act.put, qSa, qS0, qS1, i64_w, i32_w]
                        rfl
                       refine pure_ (i := 13) (N := some 107) (v := undef) (a' := ?_) z21_12 rfl rfl (any_of HT_.out (by kernel_rfl)) (fun _ _ _ h => h) (Or.inr ⟨by rfl, rfl⟩) ?_ ?_
                       rotate_left
                       ·
                        simp only [Act.put, qSa, qS0, qS1, i64_w, i32_w]
                        rfl
                       refine pure_ (i := 14) (N := some 108) (v := ?_) (a' := ?_) z21_13 rfl rfl (any_of HT_.out (by kernel_rfl)) (fun _ _ _ h => h) (Or.inl ⟨by rfl, ?_⟩) ?_ ?_
                       rotate_left
                       ·
                        intro w'
                        go_simp
                        with_reducible rfl
                       rotate_left
                       ·
                        simp only [Act.put, qSa, qS0, qS1, i64_w, i32_w]
                        rfl
                       refine pure_ (i := 15) (N := some 109) (v := ?_) (a' := ?_) z21_14 rfl rfl (any_of HT_.out (by kernel_rfl)) (fun _ _ _ h => h) (Or.inl ⟨by rfl, ?_⟩) ?_ ?_
                       rotate_left
                       ·
                        intro w'
                        go_simp
                        with_reducible rfl
                       rotate_left
                       ·
                        simp only [Act.put, qSa, qS0, qS1, i64_w, i32_w]
                        rfl
                       refine pure_ (i := 16) (N := some 110) (v := ?_) (a' := ?_) z21_15 rfl rfl (any_of HT_.out (by kernel_rfl)) (fun _ _ _ h => h) (Or.inl ⟨by rfl, ?_⟩) ?_ ?_
                       rotate_left
                       ·
                        intro w'
                        go_simp
                        with_reducible rfl
                       rotate_left
                       ·
                        simp only [Act.put, qSa, qS0, qS1, i64_w, i32_w]
                        rfl
                       refine pure_ (i := 17) (N := some 111) (v := undef) (a' := ?_) z21_16 rfl rfl (any_of HT_.out (by kernel_rfl)) (fun _ _ _ h => h) (Or.inr ⟨by rfl, rfl⟩) ?_ ?_
                       rotate_left
                       ·
                        simp only [Act.put, qSa, qS0, qS1, i64_w, i32_w]
                        rfl
                       refine pure_ (i := 18) (N := some 112) (v := undef) (a' := ?_) z21_17 rfl rfl (any_of HT_.out (by kernel_rfl)) (fun _ _ _ h => h) (Or.inr ⟨by rfl, rfl⟩) ?_ ?_
                       rotate_left
                       ·
                        simp only [Act.put, qSa, qS0, qS1, i64_w, i32_w]
                        rfl
                       refine pure_ (i := 19) (N := some 113) (v := undef) (a' := ?_) z21_18 rfl rfl (any_of HT_.out (by kernel_rfl)) (fun _ _ _ h => h) (Or.inr ⟨by rfl, rfl⟩) ?_ ?_
                       rotate_left
                       ·
                        simp only [Act.put, qSa, qS0, qS1, i64_w, i32_w]
                        rfl
                       refine pure_ (i := 20) (N := some 114) (v := undef) (a' := ?_) z21_19 rfl rfl (any_of HT_.out (by kernel_rfl)) (fun _ _ _ h => h) (Or.inr ⟨by rfl, rfl⟩) ?_ ?_
                       rotate_left
                       ·
                        simp only [Act.put, qSa, qS0, qS1, i64_w, i32_w]
                        rfl
                       refine pure_ (i := 21) (N := some 115) (v := undef) (a' := ?_) z21_20 rfl rfl (any_of HT_.out (by kernel_rfl)) (fun _ _ _ h => h) (Or.inr ⟨by rfl, rfl⟩) ?_ ?_
                       rotate_left
                       ·
                        simp only [Act.put, qSa, qS0, qS1, i64_w, i32_w]
                        rfl
                       refine pure_ (i := 22) (N := some 116) (v := undef) (a' := ?_) z21_21 rfl rfl (any_of HT_.out (by kernel_rfl)) (fun _ _ _ h => h) (Or.inr ⟨by rfl, rfl⟩) ?_ ?_
                       rotate_left
                       ·
                        simp only [Act.put, qSa, qS0, qS1, i64_w, i32_w]
                        rfl
                       refine pure_ (i := 23) (N := some 117) (v := ?_) (a' := ?_) z21_22 rfl rfl (any_of HT_.out (by kernel_rfl)) (fun _ _ _ h => h) (Or.inl ⟨by rfl, ?_⟩) ?_ ?_
                       rotate_left
                       ·
                        intro w'
                        go_simp
                        with_reducible rfl
                       rotate_left
                       ·
                        simp only [Act.put, qSa, qS0, qS1, i64_w, i32_w]
                        rfl
                       refine done_ (done_of HT_.out (by kernel_rfl)) ?_
                       try go_wp2
                       go_meet
                       case rel => exact ⟨_, (true), (by first | rfl | (simp; done) | (simp [*]; done)), H', ⟨by have := HK1.out; have := HJ19.out; have := HJ35.out; first | omega | exact Nat.le_refl _⟩, ⟨by (with_reducible repeat (first | refine kDN ?_ _ | refine kDr ?_ | refine kAl ?_ _)); exact BK462.out⟩, ⟨by repeat (first | (with_reducible first | exact HB.out | apply bAl | apply pbD | apply bD1 | refine bSt ?_ GE462.out) | exact HB.out)⟩⟩
                     ·
                      rw [if_neg c55] at H
                      have c55b0 : (t460 == 6) = false := beq_eq_false_iff_ne.mpr c55
                      have c55b1 : (t460 != 6) = true := bne_iff_ne.mpr c55
                      (first | rw [c55b0] | (simp only [i64_w, i32_w]; rw [c55b0]) | skip)
                      have H' := aK H
                      clear H
                      try go_wp2
                      have n0_ := aK (Kd.R_drew HO_12.out)
                      have n1_ := aK (kDr BK462.out)
                      have n2_ := aK (bD1 HB.out)
                      clear HO_12
                      clear BK462
                      clear HB
                      have HO_12 := n0_
                      have BK462 := n1_
                      have HB := n2_
                      clear n0_ n1_ n2_
                      refine start_ (n := 24) (S := fun w' => True) (ds := []) z21_0 (by kernel_rfl) rfl rfl trivial (fun hHeld => ?_); refine with_tabW w9_CheckParts.tab19 w9_CheckParts.bits19 (fun HT_ HW_ => ?_)
                      generalize wc.drew = w64 at HO_12 BK462 HB hHeld ⊢
                      refine pure_ (i := 0) (N := some 94) (v := ?_) (a' := ?_) z21_1 rfl rfl (any_of HT_.out (by kernel_rfl)) (fun _ _ _ h => h) (Or.inl ⟨by rfl, ?_⟩) ?_ ?_
                      rotate_left
                      ·
                       intro w'
                       go_simp
                       with_reducible rfl
                      rotate_left
                      ·
                       simp only [Act.put, qSa, qS0, qS1, i64_w, i32_w]
                       rfl
                      refine pure_ (i := 1) (N := some 95) (v := ?_) (a' := ?_) z21_2 rfl rfl (any_of HT_.out (by kernel_rfl)) (fun _ _ _ h => h) (Or.inl ⟨by rfl, ?_⟩) ?_ ?_
                      rotate_left
                      ·
                       intro w'
                       go_simp
                       with_reducible rfl
                      rotate_left
                      ·
                       simp only [Act.put, qSa, qS0, qS1, i64_w, i32_w]
                       rfl
                      refine pure_ (i := 2) (N := some 96) (v := ?_) (a' := ?_) z21_3 rfl rfl (any_of HT_.out (by kernel_rfl)) (fun _ _ _ h => h) (Or.inl ⟨by rfl, ?_⟩) ?_ ?_
                      rotate_left
                      ·
                       intro w'
                       go_simp
                       with_reducible rfl
                      rotate_left
                      ·
                       simp only [Act.put, qSa, qS0, qS1, i64_w, i32_w]
                       rfl
                      refine pure_ (i := 3) (N := some 97) (v := ?_) (a' := ?_) z21_4 rfl rfl (any_of HT_.out (by kernel_rfl)) (fun _ _ _ h => h) (Or.inl ⟨by rfl, ?_⟩) ?_ ?_
                      rotate_left
                      ·
                       intro w'
                       go_simp
                       with_reducible rfl
                      rotate_left
                      ·
                       simp only [Act.put, qSa, qS0, qS1, i64_w, i32_w]
                       rfl
                      refine pure_ (i := 4) (N := some 98) (v := ?_) (a' := ?_) z21_5 rfl rfl (any_of HT_.out (by kernel_rfl)) (fun _ _ _ h => h) (Or.inl ⟨by rfl, ?_⟩) ?_ ?_
                      rotate_left
                      ·
                       intro w'
                       go_simp
                       with_reducible rfl
                      rotate_left
                      ·
                       simp only [Act.put, qSa, qS0, qS1, i64_w, i32_w]
                       rfl
                      refine pure_ (i := 5) (N := some 99) (v := undef) (a' := ?_) z21_6 rfl rfl (any_of HT_.out (by kernel_rfl)) (fun _ _ _ h => h) (Or.inr ⟨by rfl, rfl⟩) ?_ ?_
                      rotate_left
                      ·
                       simp only [Act.put, qSa, qS0, qS1, i64_w, i32_w]
                       rfl
                      refine pure_ (i := 6) (N := some 100) (v := undef) (a' := ?_) z21_7 rfl rfl (any_of HT_.out (by kernel_rfl)) (fun _ _ _ h => h) (Or.inr ⟨by rfl, rfl⟩) ?_ ?_
                      rotate_left
                      ·
                       simp only [Act.put, qSa, qS0, qS1, i64_w, i32_w]
                       rfl
                      refine pure_ (i := 7) (N := some 101) (v := ?_) (a' := ?_) z21_8 rfl rfl (any_of HT_.out (by kernel_rfl)) (fun _ _ _ h => h) (Or.inl ⟨by rfl, ?_⟩) ?_ ?_
                      rotate_left
                      ·
                       intro w'
                       go_simp
                       with_reducible rfl
                      rotate_left
                      ·
                       simp only [Act.put, qSa, qS0, qS1, i64_w, i32_w]
                       rfl
                      refine pure_ (i := 8) (N := some 102) (v := ?_) (a' := ?_) z21_9 rfl rfl (any_of HT_.out (by kernel_rfl)) (fun _ _ _ h => h) (Or.inl ⟨by rfl, ?_⟩) ?_ ?_
                      rotate_left
                      ·
                       intro w'
                       go_simp
                       with_reducible rfl
                      rotate_left
                      ·
                       simp only [Act.put, qSa, qS0, qS1, i64_w, i32_w]
                       rfl
                      refine pure_ (i := 9) (N := some 103) (v := undef) (a' := ?_) z21_10 rfl rfl (any_of HT_.out (by kernel_rfl)) (fun _ _ _ h => h) (Or.inr ⟨by rfl, rfl⟩) ?_ ?_
                      rotate_left
                      ·
                       simp only [Act.put, qSa, qS0, qS1, i64_w, i32_w]
                       rfl
                      refine pure_ (i := 10) (N := some 104) (v := undef) (a' := ?_) z21_23 rfl rfl (any_of HT_.out (by kernel_rfl)) (fun _ _ _ h => h) (Or.inr ⟨by rfl, rfl⟩) ?_ ?_
                      rotate_left
                      ·
                       simp only [Act.put, qSa, qS0, qS1, i64_w, i32_w]
                       rfl
                      refine pure_ (i := 11) (N := some 105) (v := undef) (a' := ?_) z21_24 rfl rfl (any_of HT_.out (by kernel_rfl)) (fun _ _ _ h => h) (Or.inr ⟨by rfl, rfl⟩) ?_ ?_
                      rotate_left
                      ·
                       simp only [Act.put, qSa, qS0, qS1, i64_w, i32_w]
                       rfl
                      refine pure_ (i := 12) (N := some 106) (v := undef) (a' := ?_) z21_11 rfl rfl (any_of HT_.out (by kernel_rfl)) (fun _ _ _ h => h) (Or.inr ⟨by rfl, rfl⟩) ?_ ?_
                      rotate_left
                      ·
                       simp only [Act.put, qSa, qS0, qS1, i64_w, i32_w]
                       rfl
                      refine pure_ (i := 13) (N := some 107) (v := undef) (a' := ?_) z21_12 rfl rfl (any_of HT_.out (by kernel_rfl)) (fun _ _ _ h => h) (Or.inr ⟨by rfl, rfl⟩) ?_ ?_
                      rotate_left
                      ·
                       simp only [Act.put, qSa, qS0, qS1, i64_w, i32_w]
                       rfl
                      refine pure_ (i := 14) (N := some 108) (v := ?_) (a' := ?_) z21_13 rfl rfl (any_of HT_.out (by kernel_rfl)) (fun _ _ _ h => h) (Or.inl ⟨by rfl, ?_⟩) ?_ ?_
                      rotate_left
                      ·
                       intro w'
                       go_simp
                       with_reducible rfl
                      rotate_left
                      ·
                       simp only [Act.put, qSa, qS0, qS1, i64_w, i32_w]
                       rfl
                      refine pure_ (i := 15) (N := some 109) (v := ?_) (a' := ?_) z21_14 rfl rfl (any_of HT_.out (by kernel_rfl)) (fun _ _ _ h => h) (Or.inl ⟨by rfl, ?_⟩) ?_ ?_
                      rotate_left
                      ·
                       intro w'
                       go_simp
                       with_reducible rfl
                      rotate_left
                      ·
                       simp only [Act.put, qSa, qS0, qS1, i64_w, i32_w]
                       rfl
                      refine pure_ (i := 16) (N := some 110) (v := ?_) (a' := ?_) z21_15 rfl rfl (any_of HT_.out (by kernel_rfl)) (fun _ _ _ h => h) (Or.inl ⟨by rfl, ?_⟩) ?_ ?_
                      rotate_left
                      ·
                       intro w'
                       go_simp
                       with_reducible rfl
                      rotate_left
                      ·
                       simp only [Act.put, qSa, qS0, qS1, i64_w, i32_w]
                       rfl
                      refine pure_ (i := 17) (N := some 111) (v := undef) (a' := ?_) z21_16 rfl rfl (any_of HT_.out (by kernel_rfl)) (fun _ _ _ h => h) (Or.inr ⟨by rfl, rfl⟩) ?_ ?_
                      rotate_left
                      ·
                       simp only [Act.put, qSa, qS0, qS1, i64_w, i32_w]
                       rfl
                      refine pure_ (i := 18) (N := some 112) (v := undef) (a' := ?_) z21_17 rfl rfl (any_of HT_.out (by kernel_rfl)) (fun _ _ _ h => h) (Or.inr ⟨by rfl, rfl⟩) ?_ ?_
                      rotate_left
                      ·
                       simp only [Act.put, qSa, qS0, qS1, i64_w, i32_w]
                       rfl
                      refine pure_ (i := 19) (N := some 113) (v := undef) (a' := ?_) z21_18 rfl rfl (any_of HT_.out (by kernel_rfl)) (fun _ _ _ h => h) (Or.inr ⟨by rfl, rfl⟩) ?_ ?_
                      rotate_left
                      ·
                       simp only [Act.put, qSa, qS0, qS1, i64_w, i32_w]
                       rfl
                      refine pure_ (i := 20) (N := some 114) (v := undef) (a' := ?_) z21_19 rfl rfl (any_of HT_.out (by kernel_rfl)) (fun _ _ _ h => h) (Or.inr ⟨by rfl, rfl⟩) ?_ ?_
                      rotate_left
                      ·
                       simp only [Act.put, qSa, qS0, qS1, i64_w, i32_w]
                       rfl
                      refine pure_ (i := 21) (N := some 115) (v := undef) (a' := ?_) z21_20 rfl rfl (any_of HT_.out (by kernel_rfl)) (fun _ _ _ h => h) (Or.inr ⟨by rfl, rfl⟩) ?_ ?_
                      rotate_left
                      ·
                       simp only [Act.put, qSa, qS0, qS1, i64_w, i32_w]
                       rfl
                      refine pure_ (i := 22) (N := some 116) (v := undef) (a' := ?_) z21_21 rfl rfl (any_of HT_.out (by kernel_rfl)) (fun _ _ _ h => h) (Or.inr ⟨by rfl, rfl⟩) ?_ ?_
                      rotate_left
                      ·
                       simp only [Act.put, qSa, qS0, qS1, i64_w, i32_w]
                       rfl
                      refine pure_ (i := 23) (N := some 117) (v := ?_) (a' := ?_) z21_22 rfl rfl (any_of HT_.out (by kernel_rfl)) (fun _ _ _ h => h) (Or.inl ⟨by rfl, ?_⟩) ?_ ?_
                      rotate_left
                      ·
                       intro w'
                       go_simp
                       with_reducible rfl
                      rotate_left
                      ·
                       simp only [Act.put, qSa, qS0, qS1, i64_w, i32_w]
                       rfl
                      refine done_ (done_of HT_.out (by kernel_rfl)) ?_
                      try go_wp2
                      go_meet
                      case rel => exact ⟨_, (true), (by first | rfl | (simp; done) | (simp [*]; done)), H', ⟨by have := HK1.out; have := HJ19.out; have := HJ35.out; first | omega | exact Nat.le_refl _⟩, ⟨by (with_reducible repeat (first | refine kDN ?_ _ | refine kDr ?_ | refine kAl ?_ _)); exact BK462.out⟩, ⟨by repeat (first | (with_reducible first | exact HB.out | apply bAl | apply pbD | apply bD1 | refine bSt ?_ GE462.out) | exact HB.out)⟩⟩
                    ·
                     replace c54 := Bool.eq_false_iff.mpr c54
                     subst c54
                     have H1 : (w9_CheckParts.j3 kj35 l0 (t460 != 0) ((rd_T23 l0 (ji26)).f0) ((rd_T23 l0 (ji26)).f1) ((rd_T23 l0 (ji26)).f2) ((rd_T23 l0 (ji26)).f3) ((rd_T23 l0 (ji26)).f4)) = some r := by rw [if_neg (show ¬ (false = true) by decide)] at H; exact H
                     clear H
                     have H := H1
                     clear H1
                     have H' := aK H
                     clear H
                     try go_wp2
                     have n0_ := aK (Kd.R_drew HO_12.out)
                     have n1_ := aK (kDr BK462.out)
                     have n2_ := aK (bD1 HB.out)
                     clear HO_12
                     clear BK462
                     clear HB
                     have HO_12 := n0_
                     have BK462 := n1_
                     have HB := n2_
                     clear n0_ n1_ n2_
                     refine start_ (n := 24) (S := fun w' => True) (ds := []) z21_0 (by kernel_rfl) rfl rfl trivial (fun hHeld => ?_); refine with_tabW w9_CheckParts.tab19 w9_CheckParts.bits19 (fun HT_ HW_ => ?_)
                     generalize wc.drew = w65 at HO_12 BK462 HB hHeld ⊢
                     refine pure_ (i := 0) (N := some 94) (v := ?_) (a' := ?_) z21_1 rfl rfl (any_of HT_.out (by kernel_rfl)) (fun _ _ _ h => h) (Or.inl ⟨by rfl, ?_⟩) ?_ ?_
                     rotate_left
                     ·
                      intro w'
                      go_simp
                      with_reducible rfl
                     rotate_left
                     ·
                      simp only [Act.put, qSa, qS0, qS1, i64_w, i32_w]
                      rfl
                     refine pure_ (i := 1) (N := some 95) (v := ?_) (a' := ?_) z21_2 rfl rfl (any_of HT_.out (by kernel_rfl)) (fun _ _ _ h => h) (Or.inl ⟨by rfl, ?_⟩) ?_ ?_
                     rotate_left
                     ·
                      intro w'
                      go_simp
                      with_reducible rfl
                     rotate_left
                     ·
                      simp only [Act.put, qSa, qS0, qS1, i64_w, i32_w]
                      rfl
                     refine pure_ (i := 2) (N := some 96) (v := undef) (a' := ?_) z21_3 rfl rfl (any_of HT_.out (by kernel_rfl)) (fun _ _ _ h => h) (Or.inr ⟨by rfl, rfl⟩) ?_ ?_
                     rotate_left
                     ·
                      simp only [Act.put, qSa, qS0, qS1, i64_w, i32_w]
                      rfl
                     refine pure_ (i := 3) (N := some 97) (v := undef) (a' := ?_) z21_4 rfl rfl (any_of HT_.out (by kernel_rfl)) (fun _ _ _ h => h) (Or.inr ⟨by rfl, rfl⟩) ?_ ?_
                     rotate_left
                     ·
                      simp only [Act.put, qSa, qS0, qS1, i64_w, i32_w]
                      rfl
                     refine pure_ (i := 4) (N := some 98) (v := undef) (a' := ?_) z21_5 rfl rfl (any_of HT_.out (by kernel_rfl)) (fun _ _ _ h => h) (Or.inr ⟨by rfl, rfl⟩) ?_ ?_
                     rotate_left
                     ·
                      simp only [Act.put, qSa, qS0, qS1, i64_w, i32_w]
                      rfl
                     refine pure_ (i := 5) (N := some 99) (v := undef) (a' := ?_) z21_6 rfl rfl (any_of HT_.out (by kernel_rfl)) (fun _ _ _ h => h) (Or.inr ⟨by rfl, rfl⟩) ?_ ?_
                     rotate_left
                     ·
                      simp only [Act.put, qSa, qS0, qS1, i64_w, i32_w]
                      rfl
                     refine pure_ (i := 6) (N := some 100) (v := undef) (a' := ?_) z21_7 rfl rfl (any_of HT_.out (by kernel_rfl)) (fun _ _ _ h => h) (Or.inr ⟨by rfl, rfl⟩) ?_ ?_
                     rotate_left
                     ·
                      simp only [Act.put, qSa, qS0, qS1, i64_w, i32_w]
                      rfl
                     refine pure_ (i := 7) (N := some 101) (v := undef) (a' := ?_) z21_8 rfl rfl (any_of HT_.out (by kernel_rfl)) (fun _ _ _ h => h) (Or.inr ⟨by rfl, rfl⟩) ?_ ?_
                     rotate_left
                     ·
                      simp only [Act.put, qSa, qS0, qS1, i64_w, i32_w]
                      rfl
                     refine pure_ (i := 8) (N := some 102) (v := undef) (a' := ?_) z21_9 rfl rfl (any_of HT_.out (by kernel_rfl)) (fun _ _ _ h => h) (Or.inr ⟨by rfl, rfl⟩) ?_ ?_
                     rotate_left
                     ·
                      simp only [Act.put, qSa, qS0, qS1, i64_w, i32_w]
                      rfl
                     refine pure_ (i := 9) (N := some 103) (v := undef) (a' := ?_) z21_10 rfl rfl (any_of HT_.out (by kernel_rfl)) (fun _ _ _ h => h) (Or.inr ⟨by rfl, rfl⟩) ?_ ?_
                     rotate_left
                     ·
                      simp only [Act.put, qSa, qS0, qS1, i64_w, i32_w]
                      rfl
                     refine pure_ (i := 10) (N := some 104) (v := undef) (a' := ?_) z21_23 rfl rfl (any_of HT_.out (by kernel_rfl)) (fun _ _ _ h => h) (Or.inr ⟨by rfl, rfl⟩) ?_ ?_
                     rotate_left
                     ·
                      simp only [Act.put, qSa, qS0, qS1, i64_w, i32_w]
                      rfl
                     refine pure_ (i := 11) (N := some 105) (v := undef) (a' := ?_) z21_24 rfl rfl (any_of HT_.out (by kernel_rfl)) (fun _ _ _ h => h) (Or.inr ⟨by rfl, rfl⟩) ?_ ?_
                     rotate_left
                     ·
                      simp only [Act.put, qSa, qS0, qS1, i64_w, i32_w]
                      rfl
                     refine pure_ (i := 12) (N := some 106) (v := undef) (a' := ?_) z21_11 rfl rfl (any_of HT_.out (by kernel_rfl)) (fun _ _ _ h => h) (Or.inr ⟨by rfl, rfl⟩) ?_ ?_
                     rotate_left
                     ·
                      simp only [Act.put, qSa, qS0, qS1, i64_w, i32_w]
                      rfl
                     refine pure_ (i := 13) (N := some 107) (v := undef) (a' := ?_) z21_12 rfl rfl (any_of HT_.out (by kernel_rfl)) (fun _ _ _ h => h) (Or.inr ⟨by rfl, rfl⟩) ?_ ?_
                     rotate_left
                     ·
                      simp only [Act.put, qSa, qS0, qS1, i64_w, i32_w]
                      rfl
                     refine pure_ (i := 14) (N := some 108) (v := undef) (a' := ?_) z21_13 rfl rfl (any_of HT_.out (by kernel_rfl)) (fun _ _ _ h => h) (Or.inr ⟨by rfl, rfl⟩) ?_ ?_
                     rotate_left
                     ·
                      simp only [Act.put, qSa, qS0, qS1, i64_w, i32_w]
                      rfl
                     refine pure_ (i := 15) (N := some 109) (v := ?_) (a' := ?_) z21_14 rfl rfl (any_of HT_.out (by kernel_rfl)) (fun _ _ _ h => h) (Or.inl ⟨by rfl, ?_⟩) ?_ ?_
                     rotate_left
                     ·
                      intro w'
                      go_simp
                      with_reducible rfl
                     rotate_left
                     ·
                      simp only [Act.put, qSa, qS0, qS1, i64_w, i32_w]
                      rfl
                     refine pure_ (i := 16) (N := some 110) (v := ?_) (a' := ?_) z21_15 rfl rfl (any_of HT_.out (by kernel_rfl)) (fun _ _ _ h => h) (Or.inl ⟨by rfl, ?_⟩) ?_ ?_
                     rotate_left
                     ·
                      intro w'
                      go_simp
                      with_reducible rfl
                     rotate_left
                     ·
                      simp only [Act.put, qSa, qS0, qS1, i64_w, i32_w]
                      rfl
                     refine pure_ (i := 17) (N := some 111) (v := ?_) (a' := ?_) z21_16 rfl rfl (any_of HT_.out (by kernel_rfl)) (fun _ _ _ h => h) (Or.inl ⟨by rfl, ?_⟩) ?_ ?_
                     rotate_left
                     ·
                      intro w'
                      go_simp
                      with_reducible rfl
                     rotate_left
                     ·
                      simp only [Act.put, qSa, qS0, qS1, i64_w, i32_w]
                      rfl
                     refine pure_ (i := 18) (N := some 112) (v := ?_) (a' := ?_) z21_17 rfl rfl (any_of HT_.out (by kernel_rfl)) (fun _ _ _ h => h) (Or.inl ⟨by rfl, ?_⟩) ?_ ?_
                     rotate_left
                     ·
                      intro w'
                      go_simp
                      with_reducible rfl
                     rotate_left
                     ·
                      simp only [Act.put, qSa, qS0, qS1, i64_w, i32_w]
                      rfl
                     refine pure_ (i := 19) (N := some 113) (v := ?_) (a' := ?_) z21_18 rfl rfl (any_of HT_.out (by kernel_rfl)) (fun _ _ _ h => h) (Or.inl ⟨by rfl, ?_⟩) ?_ ?_
                     rotate_left
                     ·
                      intro w'
                      go_simp
                      with_reducible rfl
                     rotate_left
                     ·
                      simp only [Act.put, qSa, qS0, qS1, i64_w, i32_w]
                      rfl
                     refine pure_ (i := 20) (N := some 114) (v := ?_) (a' := ?_) z21_19 rfl rfl (any_of HT_.out (by kernel_rfl)) (fun _ _ _ h => h) (Or.inl ⟨by rfl, ?_⟩) ?_ ?_
                     rotate_left
                     ·
                      intro w'
                      go_simp
                      with_reducible rfl
                     rotate_left
                     ·
                      simp only [Act.put, qSa, qS0, qS1, i64_w, i32_w]
                      rfl
                     refine pure_ (i := 21) (N := some 115) (v := ?_) (a' := ?_) z21_20 rfl rfl (any_of HT_.out (by kernel_rfl)) (fun _ _ _ h => h) (Or.inl ⟨by rfl, ?_⟩) ?_ ?_
                     rotate_left
                     ·
                      intro w'
                      go_simp
                      with_reducible rfl
                     rotate_left
                     ·
                      simp only [Act.put, qSa, qS0, qS1, i64_w, i32_w]
                      rfl
                     refine pure_ (i := 22) (N := some 116) (v := ?_) (a' := ?_) z21_21 rfl rfl (any_of HT_.out (by kernel_rfl)) (fun _ _ _ h => h) (Or.inl ⟨by rfl, ?_⟩) ?_ ?_
                     rotate_left
                     ·
                      intro w'
                      go_simp
                      with_reducible rfl
                     rotate_left
                     ·
                      simp only [Act.put, qSa, qS0, qS1, i64_w, i32_w]
                      rfl
                     refine pure_ (i := 23) (N := some 117) (v := ?_) (a' := ?_) z21_22 rfl rfl (any_of HT_.out (by kernel_rfl)) (fun _ _ _ h => h) (Or.inl ⟨by rfl, ?_⟩) ?_ ?_
                     rotate_left
                     ·
                      intro w'
                      go_simp
                      with_reducible rfl
                     rotate_left
                     ·
                      simp only [Act.put, qSa, qS0, qS1, i64_w, i32_w]
                      rfl
                     refine done_ (done_of HT_.out (by kernel_rfl)) ?_
                     try go_wp2
                     go_meet
                     case rel => exact ⟨_, ((t460 != 0)), (by first | rfl | (simp; done) | (simp [*]; done)), H', ⟨by have := HK1.out; have := HJ19.out; have := HJ35.out; first | omega | exact Nat.le_refl _⟩, ⟨by (with_reducible repeat (first | refine kDN ?_ _ | refine kDr ?_ | refine kAl ?_ _)); exact BK462.out⟩, ⟨by repeat (first | (with_reducible first | exact HB.out | apply bAl | apply pbD | apply bD1 | refine bSt ?_ GE462.out) | exact HB.out)⟩⟩
                   case rest =>
                    clear HC53
                    try clear c1
                    try clear p2
                    try clear c5
                    try clear c17
                    try clear c54
                    try clear c55
                    try clear c55b0
                    try clear c55b1
                    try clear c56
                    try clear c56b0
                    try clear c56b1
                    obtain ⟨kq, x117_52, rfl, HA, HJ52, BK462, HB⟩ := hcut
                    cases kq with
                    | zero => exact absurd HA.out (by simp [w9_CheckParts.j3])
                    | succ kj52 =>
                     have H := HA.out
                     clear HA
                     simp only [w9_CheckParts.j3] at H
                     by_cases c66 : x117_52 = true
                     ·
                      subst c66
                      have H1 : (some false) = some r := by rw [if_pos rfl] at H; exact H
                      clear H
                      have H := H1
                      clear H1
                      exact absurd ((Option.some.inj H).trans hT.out) (by decide)
                     ·
                      replace c66 := Bool.eq_false_iff.mpr c66
                      subst c66
                      have H1 : ((some (([] : List (S23)) : List (S23))).bind fun y464 => (if y464.length + l0.length < 2513169434916 then ((some (y464 ++ l0 : List (S23))).bind fun y467 => ((some (([(⟨((rd_T23 l0 (ji26)).f0), ((rd_T23 l0 (ji26)).f1), ((rd_T23 l0 (ji26)).f2), ((rd_T23 l0 (ji26)).f3), ((rd_T23 l0 (ji26)).f4)⟩ : S23)] : List (S23)) : List (S23))).bind fun y470 => (if y467.length + y470.length < 2513169434916 then ((check_Table.f (y467 ++ y470)).bind fun bt476 => (if bt476.1 = ((rd_T23 l0 (ji26)).f4) then (if bt476.2 = 6 then ((w9_awake.f kj52).bind fun t478 => (some t478)) else (some false)) else (some false))) else (none)))) else (none))) = some r := by rw [if_neg (show ¬ (false = true) by decide)] at H; exact H
                      clear H
                      have H := H1
                      clear H1
                      obtain ⟨y464, hy464⟩ : ∃ y_ : List (S23), y_ = (([] : List (S23))) := ⟨_, rfl⟩
                      replace H : (if y464.length + l0.length < 2513169434916 then ((some (y464 ++ l0 : List (S23))).bind fun y467 => ((some (([(⟨((rd_T23 l0 (ji26)).f0), ((rd_T23 l0 (ji26)).f1), ((rd_T23 l0 (ji26)).f2), ((rd_T23 l0 (ji26)).f3), ((rd_T23 l0 (ji26)).f4)⟩ : S23)] : List (S23)) : List (S23))).bind fun y470 => (if y467.length + y470.length < 2513169434916 then ((check_Table.f (y467 ++ y470)).bind fun bt476 => (if bt476.1 = ((rd_T23 l0 (ji26)).f4) then (if bt476.2 = 6 then ((w9_awake.f kj52).bind fun t478 => (some t478)) else (some false)) else (some false))) else (none)))) else (none)) = some r := by first | (rw [hy464]; with_reducible exact H) | (have H2_ := (Option.bind_some _ _).symm.trans H; rw [hy464]; with_reducible exact H2_) | (have H2_ := (Option.bind_some _ _).symm.trans H; with_reducible exact H2_) | with_reducible exact H | (rw [hy464]; exact H) | exact H
                      have Ny464 := aK hy464
                      clear hy464
                      by_cases c67 : y464.length + l0.length < 2513169434916
                      ·
                       rw [if_pos c67] at H
                       have LMc67 := aK c67
                       clear c67
                       obtain ⟨y467, hy467⟩ : ∃ y_ : List (S23), y_ = (y464 ++ l0) := ⟨_, rfl⟩
                       replace H : ((some (([(⟨((rd_T23 l0 (ji26)).f0), ((rd_T23 l0 (ji26)).f1), ((rd_T23 l0 (ji26)).f2), ((rd_T23 l0 (ji26)).f3), ((rd_T23 l0 (ji26)).f4)⟩ : S23)] : List (S23)) : List (S23))).bind fun y470 => (if y467.length + y470.length < 2513169434916 then ((check_Table.f (y467 ++ y470)).bind fun bt476 => (if bt476.1 = ((rd_T23 l0 (ji26)).f4) then (if bt476.2 = 6 then ((w9_awake.f kj52).bind fun t478 => (some t478)) else (some false)) else (some false))) else (none))) = some r := by first | (rw [hy467]; with_reducible exact H) | (have H2_ := (Option.bind_some _ _).symm.trans H; rw [hy467]; with_reducible exact H2_) | (have H2_ := (Option.bind_some _ _).symm.trans H; with_reducible exact H2_) | with_reducible exact H | (rw [hy467]; exact H) | exact H
                       have Ny467 := aK hy467
                       clear hy467
                       obtain ⟨y470, hy470⟩ : ∃ y_ : List (S23), y_ = (([(⟨((rd_T23 l0 (ji26)).f0), ((rd_T23 l0 (ji26)).f1), ((rd_T23 l0 (ji26)).f2), ((rd_T23 l0 (ji26)).f3), ((rd_T23 l0 (ji26)).f4)⟩ : S23)] : List (S23))) := ⟨_, rfl⟩
                       replace H : (if y467.length + y470.length < 2513169434916 then ((check_Table.f (y467 ++ y470)).bind fun bt476 => (if bt476.1 = ((rd_T23 l0 (ji26)).f4) then (if bt476.2 = 6 then ((w9_awake.f kj52).bind fun t478 => (some t478)) else (some false)) else (some false))) else (none)) = some r := by first | (rw [hy470]; with_reducible exact H) | (have H2_ := (Option.bind_some _ _).symm.trans H; rw [hy470]; with_reducible exact H2_) | (have H2_ := (Option.bind_some _ _).symm.trans H; with_reducible exact H2_) | with_reducible exact H | (rw [hy470]; exact H) | exact H
                       have Ny470 := aK hy470
                       clear hy470
                       by_cases c68 : y467.length + y470.length < 2513169434916
                       ·
                        rw [if_pos c68] at H
                        have LMc68 := aK c68
                        clear c68
                        obtain ⟨y473, hy473⟩ : ∃ y_ : List (S23), y_ = (y467 ++ y470) := ⟨_, rfl⟩
                        replace H : ((check_Table.f y473).bind fun bt476 => (if bt476.1 = ((rd_T23 l0 (ji26)).f4) then (if bt476.2 = 6 then ((w9_awake.f kj52).bind fun t478 => (some t478)) else (some false)) else (some false))) = some r := by first | (rw [hy473]; with_reducible exact H) | (have H2_ := (Option.bind_some _ _).symm.trans H; rw [hy473]; with_reducible exact H2_) | (have H2_ := (Option.bind_some _ _).symm.trans H; with_reducible exact H2_) | with_reducible exact H | (rw [hy473]; exact H) | exact H
                        have Ny473 := aK hy473
                        clear hy473
                        replace H := Option.bind_eq_some_iff.mp H
                        obtain ⟨⟨t476, t477⟩, A690, H⟩ := H
                        try dsimp only at H
                        have A69 := aK A690
                        clear A690
                        by_cases c70 : t476 = ((rd_T23 l0 (ji26)).f4)
                        ·
                         rw [if_pos c70] at H
                         have c70b0 : (t476 == ((rd_T23 l0 (ji26)).f4)) = true := beq_iff_eq.mpr c70
                         have c70b1 : (t476 != ((rd_T23 l0 (ji26)).f4)) = false := bne_eq_false_iff_eq.mpr c70
                         clear c70
                         by_cases c71 : t477 = 6
                         ·
                          rw [if_pos c71] at H
                          have c71b0 : (t477 == 6) = true := beq_iff_eq.mpr c71
                          have c71b1 : (t477 != 6) = false := bne_eq_false_iff_eq.mpr c71
                          clear c71
                          replace H := Option.bind_eq_some_iff.mp H
                          obtain ⟨t478, A720, H⟩ := H
                          replace H : (some t478) = some r := H
                          have A72 := aK A720
                          clear A720
                          obtain rfl := Option.some.inj H
                          try go_wp2
                          have n0_ := aK (kDr BK462.out)
                          have n1_ := aK (bD1 HB.out)
                          clear BK462
                          clear HB
                          have BK462 := n0_
                          have HB := n1_
                          clear n0_ n1_
                          refine start_ (n := 12) (S := fun w' => w'.cell? ⟨gb462, 0, none⟩ = some (.int .i64 ((rd_T23 l0 (ji26)).f0)) ∧ w'.cell? ⟨gb462, 1, none⟩ = some (.string ((rd_T23 l0 (ji26)).f1)) ∧ w'.cell? ⟨gb462, 2, none⟩ = some (.string ((rd_T23 l0 (ji26)).f2)) ∧ w'.cell? ⟨gb462, 3, none⟩ = some (.int .i64 ((rd_T23 l0 (ji26)).f3)) ∧ w'.cell? ⟨gb462, 4, none⟩ = some (.int .i64 ((rd_T23 l0 (ji26)).f4))) (ds := []) #[false, false, false, false, false, false, false, false, false, false, false, false] (by kernel_rfl) rfl rfl ⟨(kCe BK462.out 0).trans rfl, (kCe BK462.out 1).trans rfl, (kCe BK462.out 2).trans rfl, (kCe BK462.out 3).trans rfl, (kCe BK462.out 4).trans rfl⟩ (fun hHeld => ?_); refine with_tabW w9_CheckParts.tab21 w9_CheckParts.bits21 (fun HT_ HW_ => ?_)
                          generalize wc.drew = w73 at BK462 HB hHeld ⊢
                          refine pure_ (i := 1) (N := some 120) (v := ?_) (a' := ?_) #[false, true, false, false, false, false, false, false, false, false, false, false] rfl rfl (any_of HT_.out (by kernel_rfl)) (fun _ _ _ h => h) (Or.inl ⟨by rfl, ?_⟩) ?_ ?_
                          rotate_left
                          ·
                           intro w'
                           go_simp
                           with_reducible rfl
                          rotate_left
                          ·
                           simp only [Act.put, qSa, qS0, qS1, i64_w, i32_w]
                           rfl
                          refine take_ (i := 3) (N := some 122) (v := ?_) (a' := ?_) #[false, true, false, true, false, false, false, false, false, false, false, false] rfl rfl (take_ofW HT_.out HW_.out (by kernel_rfl)) (fun _ _ _ h => h) (Or.inl ⟨by rfl, ?_⟩) hHeld ?_ ?_
                          rotate_left
                          ·
                           rintro w' ⟨s0, s1, s2, s3, s4⟩
                           go_simp
                           with_reducible rfl
                          rotate_left
                          ·
                           simp only [Act.put, qSa, qS0, qS1, i64_w, i32_w]
                           rfl
                          refine join_ (σ := Value × Value × Value) 7 z21_25 (fun s_ => [(119, s_.1), (121, s_.2.1), (123, s_.2.2)]) (fun s_ w' => (w'.cell? ⟨gb462, 0, none⟩ = some (.int .i64 ((rd_T23 l0 (ji26)).f0)) ∧ w'.cell? ⟨gb462, 1, none⟩ = some (.string ((rd_T23 l0 (ji26)).f1)) ∧ w'.cell? ⟨gb462, 2, none⟩ = some (.string ((rd_T23 l0 (ji26)).f2)) ∧ w'.cell? ⟨gb462, 3, none⟩ = some (.int .i64 ((rd_T23 l0 (ji26)).f3)) ∧ w'.cell? ⟨gb462, 4, none⟩ = some (.int .i64 ((rd_T23 l0 (ji26)).f4))) ∧ (Kd.R k23 23 w' w.heap.size (fun k_ => some k_ ≠ (s_.2.2 : Value).ownBlock ∧ k_ ≠ gb462) s_.2.1 y467) ∧ (Kd.R k23 23 w' w.heap.size (fun k_ => some k_ ≠ (s_.2.1 : Value).ownBlock ∧ k_ ≠ gb462) s_.2.2 y470) ∧ (w'.heap[gb462]? = some (.cells #[.int .i64 ((rd_T23 l0 (ji26)).f0), .string ((rd_T23 l0 (ji26)).f1), .string ((rd_T23 l0 (ji26)).f2), .int .i64 ((rd_T23 l0 (ji26)).f3), .int .i64 ((rd_T23 l0 (ji26)).f4)] 23 (0, 0))) ∧ (Below w.heap.size w w')) ?_ ?_
                          rotate_left
                          ·
                           intro hCont
                           refine two_ (i := 0) (j := 4) (Ni := some 119) (Nj := some 123) #[true, true, false, true, false, false, false, false, false, false, false, false] #[false, true, false, true, true, false, false, false, false, false, false, false] rfl rfl rfl rfl (two_of HT_.out (by kernel_rfl)) (by decide) (by decide) (fun K hK => ?_) (fun K hK => ?_)
                           ·
                            skip
                            refine Kd.R_lit_step k23 _ 23 ?hg (N := 119) ?hd (xs := ([] : List (S23))) (inner := []) (ok := fun _ => True) (okp := fun _ => True) ?hr ?hp (fun _ hk => hk) trivial (Below.refl _ _) (Nat.le_refl _) (by simp) ?_; (case hd => rfl); (case hg => rfl); (case hr => first | (go_simp; done) | (go_simp; rfl)); (case hp => exact (Reps.none _ _))
                            intro v465 w74 ho75 hb hg_ hnew_
                            clear hg_ hnew_
                            (first | rw [← Ny464.out] at ho75 | (simp only [Int.reduceToNat] at ho75; rw [← Ny464.out] at ho75))
                            have n0_ := aK (Kd.R_lower (Kd.R_newB ho75 (g := gb462) (o := .cells #[.int .i64 ((rd_T23 l0 (ji26)).f0), .string ((rd_T23 l0 (ji26)).f1), .string ((rd_T23 l0 (ji26)).f2), .int .i64 ((rd_T23 l0 (ji26)).f3), .int .i64 ((rd_T23 l0 (ji26)).f4)] 23 (0, 0)) (by (with_reducible repeat (first | refine kDN ?_ _ | refine kDr ?_ | refine kAl ?_ _)); exact BK462.out)) (bSz (by repeat (first | (with_reducible first | exact HB.out | apply bAl | apply pbD | apply bD1 | refine bSt ?_ GE462.out) | exact HB.out))))
                            have n1_ := aK (kBe (g := gb462) (o := .cells #[.int .i64 ((rd_T23 l0 (ji26)).f0), .string ((rd_T23 l0 (ji26)).f1), .string ((rd_T23 l0 (ji26)).f2), .int .i64 ((rd_T23 l0 (ji26)).f3), .int .i64 ((rd_T23 l0 (ji26)).f4)] 23 (0, 0)) (by (with_reducible repeat (first | refine kDN ?_ _ | refine kDr ?_ | refine kAl ?_ _)); exact BK462.out) hb)
                            have n2_ := aK (bSp (by repeat (first | (with_reducible first | exact HB.out | apply bAl | apply pbD | apply bD1 | refine bSt ?_ GE462.out) | exact HB.out)) hb)
                            clear BK462
                            clear HB
                            have HO466 := n0_
                            have BK462 := n1_
                            have HB := n2_
                            clear n0_ n1_ n2_
                            clear hb ho75
                            refine hK.out _ _ ⟨(kCe BK462.out 0).trans rfl, (kCe BK462.out 1).trans rfl, (kCe BK462.out 2).trans rfl, (kCe BK462.out 3).trans rfl, (kCe BK462.out 4).trans rfl⟩ (fun hHeld => ?_)
                            clear hK K
                            refine norm_ (a' := ?_) ?_ ?_
                            rotate_left
                            ·
                             show Act.put _ (some 119) _ = _
                             simp only [Act.put, qSa, qS0, qS1, i64_w, i32_w]
                             rfl
                            refine two_ (i := 2) (j := 4) (Ni := some 121) (Nj := some 123) #[true, true, true, true, false, false, false, false, false, false, false, false] z21_28 rfl rfl rfl rfl (two_of HT_.out (by kernel_rfl)) (by decide) (by decide) (fun K hK => ?_) (fun K hK => ?_)
                            ·
                             skip
                             refine Kd.R_append_rows_step k23 (w0 := w) w.heap.size (by rfl) (.tmp 119) (.tmp 120) 25 23 (.agg #[(.int .i64 0), (.string ⟨#[]⟩), (.string ⟨#[]⟩), (.int .i64 0), (.int .i64 0)]) 56 rfl Try.underlying25 info23 rfl (by decide) (by omega) v465 y464 l0 _ _ _ (fun k_ => k_ ≠ gb462) (fun _ => False) rfl rfl ?aO ?aR (fun _ _ h => h) (fun _ h => h.elim) ?aF ?aB ?aS ?aL ?_
                             (case aR => repeat (first | exact (Kd.C_below HR0.out HB.out) | (with_reducible refine Kd.C_alloc ?_ _) | (with_reducible refine Kd.C_drewN ?_ _) | (with_reducible refine Kd.C_drew ?_)))
                             (case aB => exact (by repeat (first | (with_reducible first | exact HB.out | apply bAl | apply pbD | apply bD1 | refine bSt ?_ GE462.out) | exact HB.out)))
                             (case aF => exact (fun k_ hk => Kd.freshB (g := gb462) (o := .cells #[.int .i64 ((rd_T23 l0 (ji26)).f0), .string ((rd_T23 l0 (ji26)).f1), .string ((rd_T23 l0 (ji26)).f2), .int .i64 ((rd_T23 l0 (ji26)).f3), .int .i64 ((rd_T23 l0 (ji26)).f4)] 23 (0, 0)) (by (with_reducible repeat (first | refine kDN ?_ _ | refine kDr ?_ | refine kAl ?_ _)); exact BK462.out) k_ hk))
                             (case aO => exact (by (with_reducible repeat (first | apply Kd.R_alloc | apply Kd.R_drewN | apply Kd.R_drew)); exact Kd.R_mono HO466.out (fun _ hk => hk.2)))
                             (case aS => exact (bSz (by repeat (first | (with_reducible first | exact HB.out | apply bAl | apply pbD | apply bD1 | refine bSt ?_ GE462.out) | exact HB.out))))
                             (case aL => have := LMc67.out; omega)
                             intro v468 w76 ho hb hg hat
                             rw [← Ny467.out] at ho
                             have n0_ := aK (blk_grown (g := gb462) (o := .cells #[.int .i64 ((rd_T23 l0 (ji26)).f0), .string ((rd_T23 l0 (ji26)).f1), .string ((rd_T23 l0 (ji26)).f2), .int .i64 ((rd_T23 l0 (ji26)).f3), .int .i64 ((rd_T23 l0 (ji26)).f4)] 23 (0, 0)) (by (with_reducible repeat (first | refine kDN ?_ _ | refine kDr ?_ | refine kAl ?_ _)); exact BK462.out) hg (Kd.R_away HO466.out (fun _ hk => hk.2)))
                             have n1_ := aK (hb)
                             have n2_ := aK (ho)
                             clear BK462
                             clear HB
                             clear HO466
                             have BK462 := n0_
                             have HB := n1_
                             have HO469 := n2_
                             clear n0_ n1_ n2_
                             clear ho hb hg hat
                             refine hK.out _ _ ⟨(kCe BK462.out 0).trans rfl, (kCe BK462.out 1).trans rfl, (kCe BK462.out 2).trans rfl, (kCe BK462.out 3).trans rfl, (kCe BK462.out 4).trans rfl⟩ (fun hHeld => ?_)
                             clear hK K
                             refine norm_ (a' := ?_) ?_ ?_
                             rotate_left
                             ·
                              show Act.put _ (some 121) _ = _
                              simp only [Act.put, qSa, qS0, qS1, i64_w, i32_w]
                              rfl
                             refine one_ (i := 4) (N := some 123) z21_25 rfl rfl (one_of HT_.out (by kernel_rfl)) (by decide) (fun K hK => ?_)
                             refine Kd.R_lit_step k23 _ 23 ?hg (N := 123) ?hd (xs := ([(⟨((rd_T23 l0 (ji26)).f0), ((rd_T23 l0 (ji26)).f1), ((rd_T23 l0 (ji26)).f2), ((rd_T23 l0 (ji26)).f3), ((rd_T23 l0 (ji26)).f4)⟩ : S23)] : List (S23))) (inner := [.int .i64 ((rd_T23 l0 (ji26)).f0), .string ((rd_T23 l0 (ji26)).f1), .string ((rd_T23 l0 (ji26)).f2), .int .i64 ((rd_T23 l0 (ji26)).f3), .int .i64 ((rd_T23 l0 (ji26)).f4)]) (ok := fun _ => True) (okp := fun _ => True) ?hr ?hp (fun _ hk => hk) trivial (Below.refl _ _) (Nat.le_refl _) (by simp) ?_; (case hd => rfl); (case hg => rfl); (case hr => first | (go_simp; done) | (go_simp; rfl)); (case hp => exact (Reps.c5 (show Kd.M k23 _ _ _ (⟨((rd_T23 l0 (ji26)).f0), ((rd_T23 l0 (ji26)).f1), ((rd_T23 l0 (ji26)).f2), ((rd_T23 l0 (ji26)).f3), ((rd_T23 l0 (ji26)).f4)⟩ : S23) [.int .i64 ((rd_T23 l0 (ji26)).f0), .string ((rd_T23 l0 (ji26)).f1), .string ((rd_T23 l0 (ji26)).f2), .int .i64 ((rd_T23 l0 (ji26)).f3), .int .i64 ((rd_T23 l0 (ji26)).f4)] from (k23_mkM _ _ _ (⟨((rd_T23 l0 (ji26)).f0), ((rd_T23 l0 (ji26)).f1), ((rd_T23 l0 (ji26)).f2), ((rd_T23 l0 (ji26)).f3), ((rd_T23 l0 (ji26)).f4)⟩ : S23) )) (Reps.none _ _)))
                             intro v471 w77 ho78 hb hg_ hnew_
                             clear hg_ hnew_
                             (first | rw [← Ny470.out] at ho78 | (simp only [Int.reduceToNat] at ho78; rw [← Ny470.out] at ho78))
                             have n0_ := aK (Kd.R_elder' (by (with_reducible repeat (first | apply Kd.R_alloc | apply Kd.R_drewN | apply Kd.R_drew)); exact HO469.out) (Kd.R_base ho78) hb)
                             have n1_ := aK (Kd.R_lower (Kd.R_newB (Kd.R_new' ho78 (Kd.R_lt (by (with_reducible repeat (first | apply Kd.R_alloc | apply Kd.R_drewN | apply Kd.R_drew)); exact HO469.out))) (g := gb462) (o := .cells #[.int .i64 ((rd_T23 l0 (ji26)).f0), .string ((rd_T23 l0 (ji26)).f1), .string ((rd_T23 l0 (ji26)).f2), .int .i64 ((rd_T23 l0 (ji26)).f3), .int .i64 ((rd_T23 l0 (ji26)).f4)] 23 (0, 0)) (by (with_reducible repeat (first | refine kDN ?_ _ | refine kDr ?_ | refine kAl ?_ _)); exact BK462.out)) (bSz (by repeat (first | (with_reducible first | exact HB.out | apply bAl | apply pbD | apply bD1 | refine bSt ?_ GE462.out) | exact HB.out))))
                             have n2_ := aK (kBe (g := gb462) (o := .cells #[.int .i64 ((rd_T23 l0 (ji26)).f0), .string ((rd_T23 l0 (ji26)).f1), .string ((rd_T23 l0 (ji26)).f2), .int .i64 ((rd_T23 l0 (ji26)).f3), .int .i64 ((rd_T23 l0 (ji26)).f4)] 23 (0, 0)) (by (with_reducible repeat (first | refine kDN ?_ _ | refine kDr ?_ | refine kAl ?_ _)); exact BK462.out) hb)
                             have n3_ := aK (bSp (by repeat (first | (with_reducible first | exact HB.out | apply bAl | apply pbD | apply bD1 | refine bSt ?_ GE462.out) | exact HB.out)) hb)
                             clear HO469
                             clear BK462
                             clear HB
                             have HO469 := n0_
                             have HO472 := n1_
                             have BK462 := n2_
                             have HB := n3_
                             clear n0_ n1_ n2_ n3_
                             clear hb ho78
                             refine hK.out _ _ ⟨(kCe BK462.out 0).trans rfl, (kCe BK462.out 1).trans rfl, (kCe BK462.out 2).trans rfl, (kCe BK462.out 3).trans rfl, (kCe BK462.out 4).trans rfl⟩ (fun hHeld => ?_)
                             clear hK K
                             refine norm_ (a' := ?_) ?_ ?_
                             rotate_left
                             ·
                              show Act.put _ (some 123) _ = _
                              simp only [Act.put, qSa, qS0, qS1, i64_w, i32_w]
                              rfl
                             exact norm_ (by simp only [putAll, Act.put, qSa, qS0, qS1]) (hCont (v465, v468, v471) _ ⟨hHeld, (by (with_reducible repeat (first | apply Kd.R_alloc | apply Kd.R_drewN | apply Kd.R_drew)); exact Kd.R_mono HO469.out (fun _ hk => ⟨hk.2, hk.1⟩)), (by (with_reducible repeat (first | apply Kd.R_alloc | apply Kd.R_drewN | apply Kd.R_drew)); exact Kd.R_mono HO472.out (fun _ hk => ⟨hk.1.2, hk.2⟩)), (by (with_reducible repeat (first | refine kDN ?_ _ | refine kDr ?_ | refine kAl ?_ _)); exact BK462.out), (by repeat (first | (with_reducible first | exact HB.out | apply bAl | apply pbD | apply bD1 | refine bSt ?_ GE462.out) | exact HB.out))⟩)
                            ·
                             skip
                             refine Kd.R_lit_step k23 _ 23 ?hg (N := 123) ?hd (xs := ([(⟨((rd_T23 l0 (ji26)).f0), ((rd_T23 l0 (ji26)).f1), ((rd_T23 l0 (ji26)).f2), ((rd_T23 l0 (ji26)).f3), ((rd_T23 l0 (ji26)).f4)⟩ : S23)] : List (S23))) (inner := [.int .i64 ((rd_T23 l0 (ji26)).f0), .string ((rd_T23 l0 (ji26)).f1), .string ((rd_T23 l0 (ji26)).f2), .int .i64 ((rd_T23 l0 (ji26)).f3), .int .i64 ((rd_T23 l0 (ji26)).f4)]) (ok := fun _ => True) (okp := fun _ => True) ?hr ?hp (fun _ hk => hk) trivial (Below.refl _ _) (Nat.le_refl _) (by simp) ?_; (case hd => rfl); (case hg => rfl); (case hr => first | (go_simp; done) | (go_simp; rfl)); (case hp => exact (Reps.c5 (show Kd.M k23 _ _ _ (⟨((rd_T23 l0 (ji26)).f0), ((rd_T23 l0 (ji26)).f1), ((rd_T23 l0 (ji26)).f2), ((rd_T23 l0 (ji26)).f3), ((rd_T23 l0 (ji26)).f4)⟩ : S23) [.int .i64 ((rd_T23 l0 (ji26)).f0), .string ((rd_T23 l0 (ji26)).f1), .string ((rd_T23 l0 (ji26)).f2), .int .i64 ((rd_T23 l0 (ji26)).f3), .int .i64 ((rd_T23 l0 (ji26)).f4)] from (k23_mkM _ _ _ (⟨((rd_T23 l0 (ji26)).f0), ((rd_T23 l0 (ji26)).f1), ((rd_T23 l0 (ji26)).f2), ((rd_T23 l0 (ji26)).f3), ((rd_T23 l0 (ji26)).f4)⟩ : S23) )) (Reps.none _ _)))
                             intro v471 w76 ho77 hb hg_ hnew_
                             clear hg_ hnew_
                             (first | rw [← Ny470.out] at ho77 | (simp only [Int.reduceToNat] at ho77; rw [← Ny470.out] at ho77))
                             have n0_ := aK (Kd.R_elder' (by (with_reducible repeat (first | apply Kd.R_alloc | apply Kd.R_drewN | apply Kd.R_drew)); exact HO466.out) (Kd.R_base ho77) hb)
                             have n1_ := aK (Kd.R_lower (Kd.R_newB (Kd.R_new' ho77 (Kd.R_lt (by (with_reducible repeat (first | apply Kd.R_alloc | apply Kd.R_drewN | apply Kd.R_drew)); exact HO466.out))) (g := gb462) (o := .cells #[.int .i64 ((rd_T23 l0 (ji26)).f0), .string ((rd_T23 l0 (ji26)).f1), .string ((rd_T23 l0 (ji26)).f2), .int .i64 ((rd_T23 l0 (ji26)).f3), .int .i64 ((rd_T23 l0 (ji26)).f4)] 23 (0, 0)) (by (with_reducible repeat (first | refine kDN ?_ _ | refine kDr ?_ | refine kAl ?_ _)); exact BK462.out)) (bSz (by repeat (first | (with_reducible first | exact HB.out | apply bAl | apply pbD | apply bD1 | refine bSt ?_ GE462.out) | exact HB.out))))
                             have n2_ := aK (kBe (g := gb462) (o := .cells #[.int .i64 ((rd_T23 l0 (ji26)).f0), .string ((rd_T23 l0 (ji26)).f1), .string ((rd_T23 l0 (ji26)).f2), .int .i64 ((rd_T23 l0 (ji26)).f3), .int .i64 ((rd_T23 l0 (ji26)).f4)] 23 (0, 0)) (by (with_reducible repeat (first | refine kDN ?_ _ | refine kDr ?_ | refine kAl ?_ _)); exact BK462.out) hb)
                             have n3_ := aK (bSp (by repeat (first | (with_reducible first | exact HB.out | apply bAl | apply pbD | apply bD1 | refine bSt ?_ GE462.out) | exact HB.out)) hb)
                             clear HO466
                             clear BK462
                             clear HB
                             have HO466 := n0_
                             have HO472 := n1_
                             have BK462 := n2_
                             have HB := n3_
                             clear n0_ n1_ n2_ n3_
                             clear hb ho77
                             refine hK.out _ _ ⟨(kCe BK462.out 0).trans rfl, (kCe BK462.out 1).trans rfl, (kCe BK462.out 2).trans rfl, (kCe BK462.out 3).trans rfl, (kCe BK462.out 4).trans rfl⟩ (fun hHeld => ?_)
                             clear hK K
                             refine norm_ (a' := ?_) ?_ ?_
                             rotate_left
                             ·
                              show Act.put _ (some 123) _ = _
                              simp only [Act.put, qSa, qS0, qS1, i64_w, i32_w]
                              rfl
                             refine one_ (i := 2) (N := some 121) z21_25 rfl rfl (one_of HT_.out (by kernel_rfl)) (by decide) (fun K hK => ?_)
                             refine Kd.R_append_rows_step k23 (w0 := w) w.heap.size (by rfl) (.tmp 119) (.tmp 120) 25 23 (.agg #[(.int .i64 0), (.string ⟨#[]⟩), (.string ⟨#[]⟩), (.int .i64 0), (.int .i64 0)]) 56 rfl Try.underlying25 info23 rfl (by decide) (by omega) v465 y464 l0 _ _ _ (fun k_ => some k_ ≠ (v471 : Value).ownBlock ∧ k_ ≠ gb462) (fun _ => False) rfl rfl ?aO ?aR (fun _ _ h => h) (fun _ h => h.elim) ?aF ?aB ?aS ?aL ?_
                             (case aR => repeat (first | exact (Kd.C_below HR0.out HB.out) | (with_reducible refine Kd.C_alloc ?_ _) | (with_reducible refine Kd.C_drewN ?_ _) | (with_reducible refine Kd.C_drew ?_)))
                             (case aB => exact (by repeat (first | (with_reducible first | exact HB.out | apply bAl | apply pbD | apply bD1 | refine bSt ?_ GE462.out) | exact HB.out)))
                             (case aF => exact (fun k_ hk => ⟨Kd.fresh' (Kd.R_lt (by (with_reducible repeat (first | apply Kd.R_alloc | apply Kd.R_drewN | apply Kd.R_drew)); exact HO472.out)) k_ hk, Kd.freshB (g := gb462) (o := .cells #[.int .i64 ((rd_T23 l0 (ji26)).f0), .string ((rd_T23 l0 (ji26)).f1), .string ((rd_T23 l0 (ji26)).f2), .int .i64 ((rd_T23 l0 (ji26)).f3), .int .i64 ((rd_T23 l0 (ji26)).f4)] 23 (0, 0)) (by (with_reducible repeat (first | refine kDN ?_ _ | refine kDr ?_ | refine kAl ?_ _)); exact BK462.out) k_ hk⟩))
                             (case aO => exact (by (with_reducible repeat (first | apply Kd.R_alloc | apply Kd.R_drewN | apply Kd.R_drew)); exact Kd.R_mono HO466.out (fun _ hk => ⟨hk.2, hk.1.2⟩)))
                             (case aS => exact (bSz (by repeat (first | (with_reducible first | exact HB.out | apply bAl | apply pbD | apply bD1 | refine bSt ?_ GE462.out) | exact HB.out))))
                             (case aL => have := LMc67.out; omega)
                             intro v468 w78 ho hb hg hat
                             rw [← Ny467.out] at ho
                             have n0_ := aK (blk_grown (g := gb462) (o := .cells #[.int .i64 ((rd_T23 l0 (ji26)).f0), .string ((rd_T23 l0 (ji26)).f1), .string ((rd_T23 l0 (ji26)).f2), .int .i64 ((rd_T23 l0 (ji26)).f3), .int .i64 ((rd_T23 l0 (ji26)).f4)] 23 (0, 0)) (by (with_reducible repeat (first | refine kDN ?_ _ | refine kDr ?_ | refine kAl ?_ _)); exact BK462.out) hg (Kd.R_away HO466.out (fun _ hk => hk.1.2)))
                             have n1_ := aK (Kd.R_after (ok := (fun k_ => k_ ≠ gb462)) (by (with_reducible repeat (first | apply Kd.R_alloc | apply Kd.R_drewN | apply Kd.R_drew)); exact Kd.R_mono HO472.out (fun _ hk => ⟨hk.2, hk.1.2⟩)) hg hat)
                             have n2_ := aK (hb)
                             have n3_ := aK (ho)
                             clear BK462
                             clear HO472
                             clear HB
                             clear HO466
                             have BK462 := n0_
                             have HO472 := n1_
                             have HB := n2_
                             have HO469 := n3_
                             clear n0_ n1_ n2_ n3_
                             clear ho hb hg hat
                             refine hK.out _ _ ⟨(kCe BK462.out 0).trans rfl, (kCe BK462.out 1).trans rfl, (kCe BK462.out 2).trans rfl, (kCe BK462.out 3).trans rfl, (kCe BK462.out 4).trans rfl⟩ (fun hHeld => ?_)
                             clear hK K
                             refine norm_ (a' := ?_) ?_ ?_
                             rotate_left
                             ·
                              show Act.put _ (some 121) _ = _
                              simp only [Act.put, qSa, qS0, qS1, i64_w, i32_w]
                              rfl
                             exact norm_ (by simp only [putAll, Act.put, qSa, qS0, qS1]) (hCont (v465, v468, v471) _ ⟨hHeld, (by (with_reducible repeat (first | apply Kd.R_alloc | apply Kd.R_drewN | apply Kd.R_drew)); exact HO469.out), (by (with_reducible repeat (first | apply Kd.R_alloc | apply Kd.R_drewN | apply Kd.R_drew)); exact Kd.R_mono HO472.out (fun _ hk => ⟨hk.2, hk.1⟩)), (by (with_reducible repeat (first | refine kDN ?_ _ | refine kDr ?_ | refine kAl ?_ _)); exact BK462.out), (by repeat (first | (with_reducible first | exact HB.out | apply bAl | apply pbD | apply bD1 | refine bSt ?_ GE462.out) | exact HB.out))⟩)
                           ·
                            skip
                            refine Kd.R_lit_step k23 _ 23 ?hg (N := 123) ?hd (xs := ([(⟨((rd_T23 l0 (ji26)).f0), ((rd_T23 l0 (ji26)).f1), ((rd_T23 l0 (ji26)).f2), ((rd_T23 l0 (ji26)).f3), ((rd_T23 l0 (ji26)).f4)⟩ : S23)] : List (S23))) (inner := [.int .i64 ((rd_T23 l0 (ji26)).f0), .string ((rd_T23 l0 (ji26)).f1), .string ((rd_T23 l0 (ji26)).f2), .int .i64 ((rd_T23 l0 (ji26)).f3), .int .i64 ((rd_T23 l0 (ji26)).f4)]) (ok := fun _ => True) (okp := fun _ => True) ?hr ?hp (fun _ hk => hk) trivial (Below.refl _ _) (Nat.le_refl _) (by simp) ?_; (case hd => rfl); (case hg => rfl); (case hr => first | (go_simp; done) | (go_simp; rfl)); (case hp => exact (Reps.c5 (show Kd.M k23 _ _ _ (⟨((rd_T23 l0 (ji26)).f0), ((rd_T23 l0 (ji26)).f1), ((rd_T23 l0 (ji26)).f2), ((rd_T23 l0 (ji26)).f3), ((rd_T23 l0 (ji26)).f4)⟩ : S23) [.int .i64 ((rd_T23 l0 (ji26)).f0), .string ((rd_T23 l0 (ji26)).f1), .string ((rd_T23 l0 (ji26)).f2), .int .i64 ((rd_T23 l0 (ji26)).f3), .int .i64 ((rd_T23 l0 (ji26)).f4)] from (k23_mkM _ _ _ (⟨((rd_T23 l0 (ji26)).f0), ((rd_T23 l0 (ji26)).f1), ((rd_T23 l0 (ji26)).f2), ((rd_T23 l0 (ji26)).f3), ((rd_T23 l0 (ji26)).f4)⟩ : S23) )) (Reps.none _ _)))
                            intro v471 w74 ho75 hb hg_ hnew_
                            clear hg_ hnew_
                            (first | rw [← Ny470.out] at ho75 | (simp only [Int.reduceToNat] at ho75; rw [← Ny470.out] at ho75))
                            have n0_ := aK (Kd.R_lower (Kd.R_newB ho75 (g := gb462) (o := .cells #[.int .i64 ((rd_T23 l0 (ji26)).f0), .string ((rd_T23 l0 (ji26)).f1), .string ((rd_T23 l0 (ji26)).f2), .int .i64 ((rd_T23 l0 (ji26)).f3), .int .i64 ((rd_T23 l0 (ji26)).f4)] 23 (0, 0)) (by (with_reducible repeat (first | refine kDN ?_ _ | refine kDr ?_ | refine kAl ?_ _)); exact BK462.out)) (bSz (by repeat (first | (with_reducible first | exact HB.out | apply bAl | apply pbD | apply bD1 | refine bSt ?_ GE462.out) | exact HB.out))))
                            have n1_ := aK (kBe (g := gb462) (o := .cells #[.int .i64 ((rd_T23 l0 (ji26)).f0), .string ((rd_T23 l0 (ji26)).f1), .string ((rd_T23 l0 (ji26)).f2), .int .i64 ((rd_T23 l0 (ji26)).f3), .int .i64 ((rd_T23 l0 (ji26)).f4)] 23 (0, 0)) (by (with_reducible repeat (first | refine kDN ?_ _ | refine kDr ?_ | refine kAl ?_ _)); exact BK462.out) hb)
                            have n2_ := aK (bSp (by repeat (first | (with_reducible first | exact HB.out | apply bAl | apply pbD | apply bD1 | refine bSt ?_ GE462.out) | exact HB.out)) hb)
                            clear BK462
                            clear HB
                            have HO472 := n0_
                            have BK462 := n1_
                            have HB := n2_
                            clear n0_ n1_ n2_
                            clear hb ho75
                            refine hK.out _ _ ⟨(kCe BK462.out 0).trans rfl, (kCe BK462.out 1).trans rfl, (kCe BK462.out 2).trans rfl, (kCe BK462.out 3).trans rfl, (kCe BK462.out 4).trans rfl⟩ (fun hHeld => ?_)
                            clear hK K
                            refine norm_ (a' := ?_) ?_ ?_
                            rotate_left
                            ·
                             show Act.put _ (some 123) _ = _
                             simp only [Act.put, qSa, qS0, qS1, i64_w, i32_w]
                             rfl
                            refine one_ (i := 0) (N := some 119) z21_28 rfl rfl (one_of HT_.out (by kernel_rfl)) (by decide) (fun K hK => ?_)
                            refine Kd.R_lit_step k23 _ 23 ?hg (N := 119) ?hd (xs := ([] : List (S23))) (inner := []) (ok := fun _ => True) (okp := fun _ => True) ?hr ?hp (fun _ hk => hk) trivial (Below.refl _ _) (Nat.le_refl _) (by simp) ?_; (case hd => rfl); (case hg => rfl); (case hr => first | (go_simp; done) | (go_simp; rfl)); (case hp => exact (Reps.none _ _))
                            intro v465 w76 ho77 hb hg_ hnew_
                            clear hg_ hnew_
                            (first | rw [← Ny464.out] at ho77 | (simp only [Int.reduceToNat] at ho77; rw [← Ny464.out] at ho77))
                            have n0_ := aK (Kd.R_elder' (by (with_reducible repeat (first | apply Kd.R_alloc | apply Kd.R_drewN | apply Kd.R_drew)); exact HO472.out) (Kd.R_base ho77) hb)
                            have n1_ := aK (Kd.R_lower (Kd.R_newB (Kd.R_new' ho77 (Kd.R_lt (by (with_reducible repeat (first | apply Kd.R_alloc | apply Kd.R_drewN | apply Kd.R_drew)); exact HO472.out))) (g := gb462) (o := .cells #[.int .i64 ((rd_T23 l0 (ji26)).f0), .string ((rd_T23 l0 (ji26)).f1), .string ((rd_T23 l0 (ji26)).f2), .int .i64 ((rd_T23 l0 (ji26)).f3), .int .i64 ((rd_T23 l0 (ji26)).f4)] 23 (0, 0)) (by (with_reducible repeat (first | refine kDN ?_ _ | refine kDr ?_ | refine kAl ?_ _)); exact BK462.out)) (bSz (by repeat (first | (with_reducible first | exact HB.out | apply bAl | apply pbD | apply bD1 | refine bSt ?_ GE462.out) | exact HB.out))))
                            have n2_ := aK (kBe (g := gb462) (o := .cells #[.int .i64 ((rd_T23 l0 (ji26)).f0), .string ((rd_T23 l0 (ji26)).f1), .string ((rd_T23 l0 (ji26)).f2), .int .i64 ((rd_T23 l0 (ji26)).f3), .int .i64 ((rd_T23 l0 (ji26)).f4)] 23 (0, 0)) (by (with_reducible repeat (first | refine kDN ?_ _ | refine kDr ?_ | refine kAl ?_ _)); exact BK462.out) hb)
                            have n3_ := aK (bSp (by repeat (first | (with_reducible first | exact HB.out | apply bAl | apply pbD | apply bD1 | refine bSt ?_ GE462.out) | exact HB.out)) hb)
                            clear HO472
                            clear BK462
                            clear HB
                            have HO472 := n0_
                            have HO466 := n1_
                            have BK462 := n2_
                            have HB := n3_
                            clear n0_ n1_ n2_ n3_
                            clear hb ho77
                            refine hK.out _ _ ⟨(kCe BK462.out 0).trans rfl, (kCe BK462.out 1).trans rfl, (kCe BK462.out 2).trans rfl, (kCe BK462.out 3).trans rfl, (kCe BK462.out 4).trans rfl⟩ (fun hHeld => ?_)
                            clear hK K
                            refine norm_ (a' := ?_) ?_ ?_
                            rotate_left
                            ·
                             show Act.put _ (some 119) _ = _
                             simp only [Act.put, qSa, qS0, qS1, i64_w, i32_w]
                             rfl
                            refine one_ (i := 2) (N := some 121) z21_25 rfl rfl (one_of HT_.out (by kernel_rfl)) (by decide) (fun K hK => ?_)
                            refine Kd.R_append_rows_step k23 (w0 := w) w.heap.size (by rfl) (.tmp 119) (.tmp 120) 25 23 (.agg #[(.int .i64 0), (.string ⟨#[]⟩), (.string ⟨#[]⟩), (.int .i64 0), (.int .i64 0)]) 56 rfl Try.underlying25 info23 rfl (by decide) (by omega) v465 y464 l0 _ _ _ (fun k_ => some k_ ≠ (v471 : Value).ownBlock ∧ k_ ≠ gb462) (fun _ => False) rfl rfl ?aO ?aR (fun _ _ h => h) (fun _ h => h.elim) ?aF ?aB ?aS ?aL ?_
                            (case aR => repeat (first | exact (Kd.C_below HR0.out HB.out) | (with_reducible refine Kd.C_alloc ?_ _) | (with_reducible refine Kd.C_drewN ?_ _) | (with_reducible refine Kd.C_drew ?_)))
                            (case aB => exact (by repeat (first | (with_reducible first | exact HB.out | apply bAl | apply pbD | apply bD1 | refine bSt ?_ GE462.out) | exact HB.out)))
                            (case aF => exact (fun k_ hk => ⟨Kd.fresh' (Kd.R_lt (by (with_reducible repeat (first | apply Kd.R_alloc | apply Kd.R_drewN | apply Kd.R_drew)); exact HO472.out)) k_ hk, Kd.freshB (g := gb462) (o := .cells #[.int .i64 ((rd_T23 l0 (ji26)).f0), .string ((rd_T23 l0 (ji26)).f1), .string ((rd_T23 l0 (ji26)).f2), .int .i64 ((rd_T23 l0 (ji26)).f3), .int .i64 ((rd_T23 l0 (ji26)).f4)] 23 (0, 0)) (by (with_reducible repeat (first | refine kDN ?_ _ | refine kDr ?_ | refine kAl ?_ _)); exact BK462.out) k_ hk⟩))
                            (case aO => exact (by (with_reducible repeat (first | apply Kd.R_alloc | apply Kd.R_drewN | apply Kd.R_drew)); exact Kd.R_mono HO466.out (fun _ hk => ⟨hk.1.2, hk.2⟩)))
                            (case aS => exact (bSz (by repeat (first | (with_reducible first | exact HB.out | apply bAl | apply pbD | apply bD1 | refine bSt ?_ GE462.out) | exact HB.out))))
                            (case aL => have := LMc67.out; omega)
                            intro v468 w78 ho hb hg hat
                            rw [← Ny467.out] at ho
                            have n0_ := aK (blk_grown (g := gb462) (o := .cells #[.int .i64 ((rd_T23 l0 (ji26)).f0), .string ((rd_T23 l0 (ji26)).f1), .string ((rd_T23 l0 (ji26)).f2), .int .i64 ((rd_T23 l0 (ji26)).f3), .int .i64 ((rd_T23 l0 (ji26)).f4)] 23 (0, 0)) (by (with_reducible repeat (first | refine kDN ?_ _ | refine kDr ?_ | refine kAl ?_ _)); exact BK462.out) hg (Kd.R_away HO466.out (fun _ hk => hk.2)))
                            have n1_ := aK (Kd.R_after (ok := (fun k_ => k_ ≠ gb462)) (by (with_reducible repeat (first | apply Kd.R_alloc | apply Kd.R_drewN | apply Kd.R_drew)); exact Kd.R_mono HO472.out (fun _ hk => ⟨hk.1.2, hk.2⟩)) hg hat)
                            have n2_ := aK (hb)
                            have n3_ := aK (ho)
                            clear BK462
                            clear HO472
                            clear HB
                            clear HO466
                            have BK462 := n0_
                            have HO472 := n1_
                            have HB := n2_
                            have HO469 := n3_
                            clear n0_ n1_ n2_ n3_
                            clear ho hb hg hat
                            refine hK.out _ _ ⟨(kCe BK462.out 0).trans rfl, (kCe BK462.out 1).trans rfl, (kCe BK462.out 2).trans rfl, (kCe BK462.out 3).trans rfl, (kCe BK462.out 4).trans rfl⟩ (fun hHeld => ?_)
                            clear hK K
                            refine norm_ (a' := ?_) ?_ ?_
                            rotate_left
                            ·
                             show Act.put _ (some 121) _ = _
                             simp only [Act.put, qSa, qS0, qS1, i64_w, i32_w]
                             rfl
                            exact norm_ (by simp only [putAll, Act.put, qSa, qS0, qS1]) (hCont (v465, v468, v471) _ ⟨hHeld, (by (with_reducible repeat (first | apply Kd.R_alloc | apply Kd.R_drewN | apply Kd.R_drew)); exact HO469.out), (by (with_reducible repeat (first | apply Kd.R_alloc | apply Kd.R_drewN | apply Kd.R_drew)); exact Kd.R_mono HO472.out (fun _ hk => ⟨hk.2, hk.1⟩)), (by (with_reducible repeat (first | refine kDN ?_ _ | refine kDr ?_ | refine kAl ?_ _)); exact BK462.out), (by repeat (first | (with_reducible first | exact HB.out | apply bAl | apply pbD | apply bD1 | refine bSt ?_ GE462.out) | exact HB.out))⟩)
                          rintro ⟨v465, v468, v471⟩ w79 ⟨hS_, h0_, h1_, h2_, h3_⟩
                          have n0_ : Aside0 (Kd.R k23 23 w79 w.heap.size (fun k_ => some k_ ≠ (v471 : Value).ownBlock ∧ k_ ≠ gb462) v468 y467) := ⟨h0_⟩
                          have n1_ : Aside0 (Kd.R k23 23 w79 w.heap.size (fun k_ => some k_ ≠ (v468 : Value).ownBlock ∧ k_ ≠ gb462) v471 y470) := ⟨h1_⟩
                          have n2_ : Aside0 (w79.heap[gb462]? = some (.cells #[.int .i64 ((rd_T23 l0 (ji26)).f0), .string ((rd_T23 l0 (ji26)).f1), .string ((rd_T23 l0 (ji26)).f2), .int .i64 ((rd_T23 l0 (ji26)).f3), .int .i64 ((rd_T23 l0 (ji26)).f4)] 23 (0, 0))) := ⟨h2_⟩
                          have n3_ : Aside0 (Below w.heap.size w w79) := ⟨h3_⟩
                          clear BK462
                          clear HB
                          clear h0_ h1_ h2_ h3_
                          have HO469 := n0_
                          have HO472 := n1_
                          have BK462 := n2_
                          have HB := n3_
                          clear n0_ n1_ n2_ n3_
                          have hHeld : w79.cell? ⟨gb462, 0, none⟩ = some (.int .i64 ((rd_T23 l0 (ji26)).f0)) ∧ w79.cell? ⟨gb462, 1, none⟩ = some (.string ((rd_T23 l0 (ji26)).f1)) ∧ w79.cell? ⟨gb462, 2, none⟩ = some (.string ((rd_T23 l0 (ji26)).f2)) ∧ w79.cell? ⟨gb462, 3, none⟩ = some (.int .i64 ((rd_T23 l0 (ji26)).f3)) ∧ w79.cell? ⟨gb462, 4, none⟩ = some (.int .i64 ((rd_T23 l0 (ji26)).f4)) := hS_
                          obtain ⟨Ao81, co81, eo81⟩ := Kd.R_slice HO472.out
                          (first | subst eo81 | (injection eo81 with f1_ f2_ f3_; have f4_ := f1_.symm; have f5_ := f3_.symm; clear f1_ f2_ f3_; subst f4_; subst f5_))
                          refine norm_ (a' := ?_) ?_ ?_
                          rotate_left
                          ·
                           simp only [putAll, Act.put, qSa, qS0, qS1]
                           rfl
                          refine one_ (i := 5) (N := some 124) #[true, true, true, true, true, true, false, false, false, false, false, false] rfl rfl (one_of HT_.out (by kernel_rfl)) (by decide) (fun K hK => ?_)
                          refine Kd.R_append_rows_step k23 (w0 := w) w.heap.size (by rfl) (.tmp 121) (.tmp 123) 25 23 (.agg #[(.int .i64 0), (.string ⟨#[]⟩), (.string ⟨#[]⟩), (.int .i64 0), (.int .i64 0)]) 56 rfl Try.underlying25 info23 rfl (by decide) (by omega) v468 y467 y470 _ _ _ (fun k_ => some k_ ≠ (.slice Ao81 y470.length co81 : Value).ownBlock ∧ k_ ≠ gb462) (fun _ => False) rfl rfl ?aO ?aR (fun _ _ h => h) (fun _ h => h.elim) ?aF ?aB ?aS ?aL ?_
                          (case aR => repeat (first | exact (Kd.R_reads' HO472.out).2.2 | (with_reducible refine Kd.C_alloc ?_ _) | (with_reducible refine Kd.C_drewN ?_ _) | (with_reducible refine Kd.C_drew ?_)))
                          (case aB => exact (by repeat (first | (with_reducible first | exact HB.out | apply bAl | apply pbD | apply bD1 | refine bSt ?_ GE462.out) | exact HB.out)))
                          (case aF => exact (fun k_ hk => ⟨Kd.fresh' (Kd.R_lt (by (with_reducible repeat (first | apply Kd.R_alloc | apply Kd.R_drewN | apply Kd.R_drew)); exact HO472.out)) k_ hk, Kd.freshB (g := gb462) (o := .cells #[.int .i64 ((rd_T23 l0 (ji26)).f0), .string ((rd_T23 l0 (ji26)).f1), .string ((rd_T23 l0 (ji26)).f2), .int .i64 ((rd_T23 l0 (ji26)).f3), .int .i64 ((rd_T23 l0 (ji26)).f4)] 23 (0, 0)) (by (with_reducible repeat (first | refine kDN ?_ _ | refine kDr ?_ | refine kAl ?_ _)); exact BK462.out) k_ hk⟩))
                          (case aO => exact (by (with_reducible repeat (first | apply Kd.R_alloc | apply Kd.R_drewN | apply Kd.R_drew)); exact HO469.out))
                          (case aS => exact (bSz (by repeat (first | (with_reducible first | exact HB.out | apply bAl | apply pbD | apply bD1 | refine bSt ?_ GE462.out) | exact HB.out))))
                          (case aL => have := LMc68.out; omega)
                          intro v474 w80 ho hb hg hat
                          rw [← Ny473.out] at ho
                          have n0_ := aK (blk_grown (g := gb462) (o := .cells #[.int .i64 ((rd_T23 l0 (ji26)).f0), .string ((rd_T23 l0 (ji26)).f1), .string ((rd_T23 l0 (ji26)).f2), .int .i64 ((rd_T23 l0 (ji26)).f3), .int .i64 ((rd_T23 l0 (ji26)).f4)] 23 (0, 0)) (by (with_reducible repeat (first | refine kDN ?_ _ | refine kDr ?_ | refine kAl ?_ _)); exact BK462.out) hg (Kd.R_away HO469.out (fun _ hk => hk.2)))
                          have n1_ := aK (Kd.R_after (ok := (fun k_ => k_ ≠ gb462)) (by (with_reducible repeat (first | apply Kd.R_alloc | apply Kd.R_drewN | apply Kd.R_drew)); exact Kd.R_mono HO472.out (fun _ hk => ⟨hk.2, hk.1⟩)) hg hat)
                          have n2_ := aK (hb)
                          have n3_ := aK (ho)
                          clear BK462
                          clear HO472
                          clear HB
                          clear HO469
                          have BK462 := n0_
                          have HO472 := n1_
                          have HB := n2_
                          have HO475 := n3_
                          clear n0_ n1_ n2_ n3_
                          clear ho hb hg hat
                          obtain ⟨Ao82, co82, eo82⟩ := Kd.R_slice HO475.out
                          (first | subst eo82 | (injection eo82 with f1_ f2_ f3_; have f4_ := f1_.symm; have f5_ := f3_.symm; clear f1_ f2_ f3_; subst f4_; subst f5_))
                          refine hK.out _ _ ⟨(kCe BK462.out 0).trans rfl, (kCe BK462.out 1).trans rfl, (kCe BK462.out 2).trans rfl, (kCe BK462.out 3).trans rfl, (kCe BK462.out 4).trans rfl⟩ (fun hHeld => ?_)
                          clear hK K
                          refine norm_ (a' := ?_) ?_ ?_
                          rotate_left
                          ·
                           show Act.put _ (some 124) _ = _
                           simp only [Act.put, qSa, qS0, qS1, i64_w, i32_w]
                           rfl
                          refine one_ (i := 6) (N := some 125) #[true, true, true, true, true, true, true, false, false, false, false, false] rfl rfl (one_of HT_.out (by kernel_rfl)) (by decide) (fun K hK => ?_)
                          refine goes_ Try.func15 (by kernel_rfl) rfl #[.slice Ao82 y473.length co82] (by rfl) rfl rfl (by (try simp only [List.map_toArray, List.map_cons, List.map_nil]); first | done | rfl | (simp only [List.length_drop, List.length_take]; rfl)) ?_
                          with_reducible refine (check_Table.calls _ _ y473 t476 t477 _ ?side1 ?side2 A69.out).mono ?_
                          (case side1 => repeat (first | exact (Kd.R_reads' HO475.out).2.2 | (with_reducible refine Kd.C_alloc ?_ _) | (with_reducible refine Kd.C_drewN ?_ _) | (with_reducible refine Kd.C_drew ?_)))
                          (case side2 => exact (Kd.R_reads' HO475.out).2.1)
                          rintro e w83 ⟨rfl, hb⟩
                          refine ⟨_, rfl, ?_⟩
                          have n0_ := aK (Kd.R_below (by (with_reducible repeat (first | apply Kd.R_alloc | apply Kd.R_drewN | apply Kd.R_drew)); exact HO472.out) hb)
                          have n1_ := aK (Kd.R_below (by (with_reducible repeat (first | apply Kd.R_alloc | apply Kd.R_drewN | apply Kd.R_drew)); exact HO475.out) hb)
                          have n2_ := aK (kBe (g := gb462) (o := .cells #[.int .i64 ((rd_T23 l0 (ji26)).f0), .string ((rd_T23 l0 (ji26)).f1), .string ((rd_T23 l0 (ji26)).f2), .int .i64 ((rd_T23 l0 (ji26)).f3), .int .i64 ((rd_T23 l0 (ji26)).f4)] 23 (0, 0)) (by (with_reducible repeat (first | refine kDN ?_ _ | refine kDr ?_ | refine kAl ?_ _)); exact BK462.out) hb)
                          have n3_ := aK (bSp (by repeat (first | (with_reducible first | exact HB.out | apply bAl | apply pbD | apply bD1 | refine bSt ?_ GE462.out) | exact HB.out)) hb)
                          clear HO472
                          clear HO475
                          clear BK462
                          clear HB
                          have HO472 := n0_
                          have HO475 := n1_
                          have BK462 := n2_
                          have HB := n3_
                          clear n0_ n1_ n2_ n3_
                          (try clear hb)
                          (try clear hb2)
                          (try clear hk)
                          (try clear hi)
                          refine hK.out _ _ ⟨(kCe BK462.out 0).trans rfl, (kCe BK462.out 1).trans rfl, (kCe BK462.out 2).trans rfl, (kCe BK462.out 3).trans rfl, (kCe BK462.out 4).trans rfl⟩ (fun hHeld => ?_)
                          clear hK K
                          refine norm_ (a' := ?_) ?_ ?_
                          rotate_left
                          ·
                           show Act.put _ (some 125) _ = _
                           simp only [Act.put, qSa, qS0, qS1, i64_w, i32_w]
                           rfl
                          refine pure_ (i := 7) (N := some 118) (v := ?_) (a' := ?_) #[true, true, true, true, true, true, true, true, false, false, false, false] rfl rfl (any_of HT_.out (by kernel_rfl)) (fun _ _ _ h => h) (Or.inl ⟨by rfl, ?_⟩) ?_ ?_
                          rotate_left
                          ·
                           intro w'
                           go_simp
                           with_reducible rfl
                          rotate_left
                          ·
                           simp only [Act.put, qSa, qS0, qS1, i64_w, i32_w]
                           rfl
                          refine pure_ (i := 8) (N := some 126) (v := ?_) (a' := ?_) #[true, true, true, true, true, true, true, true, true, false, false, false] rfl rfl (any_of HT_.out (by kernel_rfl)) (fun _ _ _ h => h) (Or.inl ⟨by rfl, ?_⟩) ?_ ?_
                          rotate_left
                          ·
                           intro w'
                           go_simp
                           with_reducible rfl
                          rotate_left
                          ·
                           simp only [Act.put, qSa, qS0, qS1, i64_w, i32_w]
                           rfl
                          refine pure_ (i := 9) (N := some 127) (v := ?_) (a' := ?_) #[true, true, true, true, true, true, true, true, true, true, false, false] rfl rfl (any_of HT_.out (by kernel_rfl)) (fun _ _ _ h => h) (Or.inl ⟨by rfl, ?_⟩) ?_ ?_
                          rotate_left
                          ·
                           intro w'
                           go_simp
                           with_reducible rfl
                          rotate_left
                          ·
                           simp only [Act.put, qSa, qS0, qS1, i64_w, i32_w]
                           rfl
                          refine pure_ (i := 10) (N := some 17) (v := ?_) (a' := ?_) #[true, true, true, true, true, true, true, true, true, true, true, false] rfl rfl (any_of HT_.out (by kernel_rfl)) (fun _ _ _ h => h) (Or.inl ⟨by rfl, ?_⟩) ?_ ?_
                          rotate_left
                          ·
                           intro w'
                           go_simp
                           with_reducible rfl
                          rotate_left
                          ·
                           simp only [Act.put, qSa, qS0, qS1, i64_w, i32_w]
                           rfl
                          refine pure_ (i := 11) (N := some 18) (v := ?_) (a' := ?_) #[true, true, true, true, true, true, true, true, true, true, true, true] rfl rfl (any_of HT_.out (by kernel_rfl)) (fun _ _ _ h => h) (Or.inl ⟨by rfl, ?_⟩) ?_ ?_
                          rotate_left
                          ·
                           intro w'
                           go_simp
                           with_reducible rfl
                          rotate_left
                          ·
                           simp only [Act.put, qSa, qS0, qS1, i64_w, i32_w]
                           rfl
                          refine done_ (done_of HT_.out (by kernel_rfl)) ?_
                          have hcz84_0 : w83.cell? ⟨gb462, 0, none⟩ = some (.int .i64 ((rd_T23 l0 (ji26)).f0)) := (kCe BK462.out 0).trans rfl
                          have hcz84_1 : w83.cell? ⟨gb462, 1, none⟩ = some (.string ((rd_T23 l0 (ji26)).f1)) := (kCe BK462.out 1).trans rfl
                          have hcz84_2 : w83.cell? ⟨gb462, 2, none⟩ = some (.string ((rd_T23 l0 (ji26)).f2)) := (kCe BK462.out 2).trans rfl
                          have hcz84_3 : w83.cell? ⟨gb462, 3, none⟩ = some (.int .i64 ((rd_T23 l0 (ji26)).f3)) := (kCe BK462.out 3).trans rfl
                          have hcz84_4 : w83.cell? ⟨gb462, 4, none⟩ = some (.int .i64 ((rd_T23 l0 (ji26)).f4)) := (kCe BK462.out 4).trans rfl
                          have hfz84_0 := bFz BK462.out 0
                          have hfz84_1 := bFz BK462.out 1
                          have hfz84_2 := bFz BK462.out 2
                          have hfz84_3 := bFz BK462.out 3
                          have hfz84_4 := bFz BK462.out 4
                          try go_wp2_with (first | (go_at_call 8; (with_reducible refine (w9_awake.calls kj52  t478 _ A72.out).mono ?_); rintro e w85 ⟨rfl, hb⟩; have n0_ := aK (Kd.R_below (by (with_reducible repeat (first | apply Kd.R_alloc | apply Kd.R_drewN | apply Kd.R_drew)); exact HO472.out) hb); have n1_ := aK (Kd.R_below (by (with_reducible repeat (first | apply Kd.R_alloc | apply Kd.R_drewN | apply Kd.R_drew)); exact HO475.out) hb); have n2_ := aK (kBe (g := gb462) (o := .cells #[.int .i64 ((rd_T23 l0 (ji26)).f0), .string ((rd_T23 l0 (ji26)).f1), .string ((rd_T23 l0 (ji26)).f2), .int .i64 ((rd_T23 l0 (ji26)).f3), .int .i64 ((rd_T23 l0 (ji26)).f4)] 23 (0, 0)) (by (with_reducible repeat (first | refine kDN ?_ _ | refine kDr ?_ | refine kAl ?_ _)); exact BK462.out) hb); have n3_ := aK (bSp (by repeat (first | (with_reducible first | exact HB.out | apply bAl | apply pbD | apply bD1 | refine bSt ?_ GE462.out) | exact HB.out)) hb); clear HO472; clear HO475; clear BK462; clear HB; have HO472 := n0_; have HO475 := n1_; have BK462 := n2_; have HB := n3_; clear n0_ n1_ n2_ n3_; (try clear hb); (try clear hb2); (try clear hk); (try clear hi)))
                          go_ret
                          exact ⟨by first | rfl | (simp [eWn, eWs] <;> rfl) | (simp only [← hji26, ← hji30]; first | rfl | (simp [eWn, eWs] <;> rfl)) | (simp [*, eWn, eWs] <;> rfl), by repeat (first | (with_reducible first | exact HB.out | apply bAl | apply pbD | apply bD1 | refine bSt ?_ GE462.out) | exact HB.out)⟩
                         ·
                          rw [if_neg c71] at H
                          have c71b0 : (t477 == 6) = false := beq_eq_false_iff_ne.mpr c71
                          have c71b1 : (t477 != 6) = true := bne_iff_ne.mpr c71
                          exact absurd ((Option.some.inj H).trans hT.out) (by decide)
                        ·
                         rw [if_neg c70] at H
                         have c70b0 : (t476 == ((rd_T23 l0 (ji26)).f4)) = false := beq_eq_false_iff_ne.mpr c70
                         have c70b1 : (t476 != ((rd_T23 l0 (ji26)).f4)) = true := bne_iff_ne.mpr c70
                         exact absurd ((Option.some.inj H).trans hT.out) (by decide)
                       ·
                        rw [if_neg c68] at H
                        exact absurd H (by simp)
                      ·
                       rw [if_neg c67] at H
                       exact absurd H (by simp)
                ·
                 rw [if_neg c35] at H
                 exact absurd H (by simp)
               ·
                rw [if_neg c33] at H
                exact absurd H (by simp)
              ·
               rw [if_neg c32] at H
               exact absurd H (by simp)
             ·
              rw [if_neg c31] at H
              exact absurd H (by simp)
            ·
             rw [if_neg c29] at H
             exact absurd H (by simp)
           ·
            rw [if_neg c28] at H
            exact absurd H (by simp)
          ·
           rw [if_neg c27] at H
           exact absurd H (by simp)
  ·
   rw [if_neg c8] at H
   have c8b0 : (t431 == 0) = false := beq_eq_false_iff_ne.mpr c8
   have c8b1 : (t431 != 0) = true := bne_iff_ne.mpr c8
   replace H := Option.bind_eq_some_iff.mp H
   obtain ⟨t432, A860, H⟩ := H
   replace H : (some t432) = some r := H
   have A86 := aK A860
   clear A860
   obtain rfl := Option.some.inj H
   go_enter Try.func6, Try.ntmps6
   go_wp2_with (first | ((with_reducible refine gate_callee (f := 7) rfl ?_); refine goesL_ (some 20) rfl rfl Try.func7 (by kernel_rfl) rfl #[.slice A0 l0.length c0] rfl (by (try simp only [List.map_toArray, List.map_cons, List.map_nil]); first | done | rfl | (simp only [List.length_drop, List.length_take]; rfl)) ?_; (with_reducible refine (w9_long.calls k _ _ l0 false _ ?side1 ?side2 A3.out).mono ?_); (case side1 => repeat (first | exact HR0.out | (with_reducible refine Kd.C_alloc ?_ _) | (with_reducible refine Kd.C_drewN ?_ _) | (with_reducible refine Kd.C_drew ?_))); (case side2 => exact HC0.out); rintro e w' ⟨rfl, ⟨nd, rfl⟩⟩; refine ⟨_, rfl, ?_⟩) | ((with_reducible refine gate_callee (f := 15) rfl ?_); refine goesL_ (some 24) rfl rfl Try.func15 (by kernel_rfl) rfl #[.slice A0 l0.length c0] rfl (by (try simp only [List.map_toArray, List.map_cons, List.map_nil]); first | done | rfl | (simp only [List.length_drop, List.length_take]; rfl)) ?_; (with_reducible refine (check_Table.calls _ _ l0 t430 t431 _ ?side1 ?side2 A7.out).mono ?_); (case side1 => repeat (first | exact HR0.out | (with_reducible refine Kd.C_alloc ?_ _) | (with_reducible refine Kd.C_drewN ?_ _) | (with_reducible refine Kd.C_drew ?_))); (case side2 => exact HC0.out); rintro e w87 ⟨rfl, hb⟩; refine ⟨_, rfl, ?_⟩; have n0_ := aK (bSp (by repeat (first | (with_reducible first | exact HB.out | apply bAl | apply pbD | apply bD1) | exact HB.out)) hb); clear HB; have HB := n0_; clear n0_; (try clear hb); (try clear hb2); (try clear hk); (try clear hi)) | ((with_reducible refine gate_callee (f := 8) rfl ?_); refine goesL_ (some 29) rfl rfl Try.func8 (by kernel_rfl) rfl #[] rfl (by (try simp only [List.map_toArray, List.map_cons, List.map_nil]); first | done | rfl | (simp only [List.length_drop, List.length_take]; rfl)) ?_; (with_reducible refine (w9_awake.calls k  t432 _ A86.out).mono ?_); rintro e w88 ⟨rfl, hb⟩; refine ⟨_, rfl, ?_⟩; have n0_ := aK (bSp (by repeat (first | (with_reducible first | exact HB.out | apply bAl | apply pbD | apply bD1) | exact HB.out)) hb); clear HB; have HB := n0_; clear n0_; (try clear hb); (try clear hb2); (try clear hk); (try clear hi)))
   go_ret
   exact ⟨by first | rfl | (simp [eWn, eWs] <;> rfl) | (simp [*, eWn, eWs] <;> rfl), by repeat (first | (with_reducible first | exact HB.out | apply bAl | apply pbD | apply bD1) | exact HB.out)⟩
end Go.Proofs.Ytgjkjoocnkdckaa.PChk
