-- Written by a program of this session (prt.py), out of the translation. Lean checks it.
import Derived.Test.YtgjkjoocnkdckaaZPureChkAwake
import Derived.Test.YtgjkjoocnkdckaaZPChk0
import Derived.Test.YtgjkjoocnkdckaaZPChk3
import Derived.Test.YtgjkjoocnkdckaaZPChk5
import Derived.Test.YtgjkjoocnkdckaaZPChk10
namespace Go.Proofs.Ytgjkjoocnkdckaa.PChk
open Go.RowKit Go.Proofs.Ytgjkjoocnkdckaa.G Go.Proofs.YtgjkjoocnkdckaaW.PrintWords Go.Proofs.YtgjkjoocnkdckaaW.PrintLast Go.Proofs.YtgjkjoocnkdckaaW.PrintMore
attribute [local go_sem] max2_int min2_int max_two min_two max_three min_three max_four min_four   -- for this text's walks alone
set_option linter.unusedVariables false
set_option linter.unusedSimpArgs false
def w9_awake.f (k : Nat)  : Option (Bool) := (w9_rule.f 1 (⟨#[97]⟩ : ByteArray) (⟨#[1]⟩ : ByteArray)).bind fun bt234 => ((check_Table.f ([] : List (S23))).bind fun bt240 => ((r9_Base.f k).bind fun t242 => ((check_Table.f t242).bind fun bt245 => ((w9_rule.f 2 (⟨#[97, 98]⟩ : ByteArray) (⟨#[1, 3]⟩ : ByteArray)).bind fun bt247 => ((check_Clash.f k bt234.1 bt234.2.1 bt234.2.2.1 bt234.2.2.2.1 bt234.2.2.2.2 bt247.1 bt247.2.1 bt247.2.2.1 bt247.2.2.2.1 bt247.2.2.2.2).bind fun t252 => (if t252 = true then ((w9_rule.f 5 (⟨#[120]⟩ : ByteArray) (⟨#[1]⟩ : ByteArray)).bind fun bt253 => ((check_Clash.f k bt234.1 bt234.2.1 bt234.2.2.1 bt234.2.2.2.1 bt234.2.2.2.2 bt253.1 bt253.2.1 bt253.2.2.1 bt253.2.2.2.1 bt253.2.2.2.2).bind fun t258 => (if t258 = true then (some false) else ((w9_rule.f 2 (⟨#[97]⟩ : ByteArray) (⟨#[1]⟩ : ByteArray)).bind fun bt259 => ((w9_rule.f 3 (⟨#[98]⟩ : ByteArray) (⟨#[1]⟩ : ByteArray)).bind fun bt264 => ((check_Clash.f k bt259.1 bt259.2.1 bt259.2.2.1 bt259.2.2.2.1 bt259.2.2.2.2 bt264.1 bt264.2.1 bt264.2.2.1 bt264.2.2.2.1 bt264.2.2.2.2).bind fun t269 => (if t269 = true then (some false) else ((w9_rule.f 8 (⟨#[98, 108, 107]⟩ : ByteArray) (⟨#[8]⟩ : ByteArray)).bind fun bt270 => ((w9_rule.f 1 (⟨#[99]⟩ : ByteArray) (⟨#[8, 16]⟩ : ByteArray)).bind fun bt275 => ((check_Clash.f k bt270.1 bt270.2.1 bt270.2.2.1 bt270.2.2.2.1 bt270.2.2.2.2 bt275.1 bt275.2.1 bt275.2.2.1 bt275.2.2.2.1 bt275.2.2.2.2).bind fun t280 => (if t280 = true then ((w9_rule.f 8 (⟨#[105, 110, 100]⟩ : ByteArray) (⟨#[54]⟩ : ByteArray)).bind fun bt281 => ((check_Alone.f k bt281.1 bt281.2.1 bt281.2.2.1 bt281.2.2.2.1 bt281.2.2.2.2).bind fun t286 => (if t286 = true then ((w9_rule.f 8 (⟨#[105, 110, 100]⟩ : ByteArray) (⟨#[54, 1]⟩ : ByteArray)).bind fun bt287 => ((check_Alone.f k bt287.1 bt287.2.1 bt287.2.2.1 bt287.2.2.2.1 bt287.2.2.2.2).bind fun t292 => (if t292 = true then (some false) else ((check_Missing.f ([] : List (S23))).bind fun t293 => (if t293.toList = ([97] : List UInt8) then (if bt240.1 = 0 then (if bt240.2 = 6 then (if bt245.1 = 0 then (some (bt245.2 == 0)) else (some false)) else (some false)) else (some false)) else (some false)))))) else (some false)))) else (some false)))))))))))) else (some false)))))))
theorem w9_awake.mono : ∀ k, LeO (w9_awake.f k ) (w9_awake.f (k + 1) ) := by
 intro  k
 unfold w9_awake.f
 repeat' first
   | (with_reducible exact check_Alone.mono _ _ _ _ _ _)
   | (with_reducible exact check_Clash.mono _ _ _ _ _ _ _ _ _ _ _)
   | (with_reducible exact r9_Base.mono _)
   | (with_reducible exact LeO.refl _)
   | (with_reducible exact LeO.none _)
   | (with_reducible refine LeO.ite ?_ ?_)
   | (with_reducible refine LeO.bind ?_ (fun _ => ?_))
   | exact check_Alone.mono _ _ _ _ _ _
   | exact check_Clash.mono _ _ _ _ _ _ _ _ _ _ _
   | exact r9_Base.mono _
   | exact LeO.none _
   | refine LeO.ite ?_ ?_
   | refine LeO.bind ?_ (fun _ => ?_)
def w9_awake.T4 : Bool × List (List Nat × List Nat) := (true, [([], []), ([], []), ([0, 1, 1], [0, 1]), ([2, 2], [2]), ([3], [3]), ([3, 3], [3]), ([4, 5, 5, 3], [3, 4, 5]), ([6, 3], [3, 6]), ([3, 7], [3, 7]), ([8, 6], [8]), ([9, 9], [9]), ([10, 9], [9]), ([10, 11, 11, 9], [9, 10, 11]), ([12, 9], [9, 12]), ([9, 13], [9, 13]), ([14, 12], [14]), ([15, 15], [15]), ([16, 15], [15]), ([16, 17, 17, 15], [15, 16, 17]), ([15, 18], [15, 18]), ([19, 18], [19]), ([20, 20], [20]), ([21, 21, 20], [20, 21]), ([20, 22], [20, 22]), ([23, 22], [23]), ([24, 24], [24]), ([25, 25, 24], [24, 25]), ([26, 24], [24, 26]), ([24, 27], [24, 27]), ([28, 26], [28]), ([29, 29], [29]), ([30, 29], [29, 30]), ([29, 31], [29, 31]), ([32, 30], [32]), ([33], [33]), ([34, 33], [33, 34]), ([33, 35], [33, 35]), ([36, 33], [36]), ([37], [37]), ([38, 37], [37, 38]), ([37, 39], [37, 39]), ([40, 37], [40]), ([41], [41]), ([42, 41], [41, 42]), ([41, 43], [41, 43]), ([44, 41], [44]), ([45], [45]), ([46, 45], [45, 46]), ([45, 47], [45, 47]), ([48, 45, 0, 1, 2, 3, 4, 5, 6, 7, 8, 9, 10, 11, 12, 13, 14, 15, 16, 17, 18, 19, 20, 21, 22, 23, 24, 25, 26, 27, 28, 29, 30, 31, 32, 33, 34, 35, 36, 37, 38, 39, 40, 41, 42, 43, 44, 45, 46, 47, 48], [48])])
def w9_awake.B4 : List Nat := [0, 0, 3, 7, 15, 15, 63, 127, 255, 511, 1023, 2047, 4095, 8191, 16383, 32767, 65535, 131071, 262143, 524287, 1048575, 2097151, 4194303, 8388607, 16777215, 33554431, 67108863, 134217727, 268435455, 536870911, 1073741823, 2147483647, 4294967295, 8589934591, 17179869183, 34359738367, 68719476735, 137438953471, 274877906943, 549755813887, 1099511627775, 2199023255551, 4398046511103, 8796093022207, 17592186044415, 35184372088831, 70368744177663, 140737488355327, 281474976710655, 562949953421311]
theorem w9_awake.tab4 : rtab .any (opsOf Try.f8 4) = w9_awake.T4 := by kernel_rfl
theorem w9_awake.bits4 : waitsOk w9_awake.T4.2 w9_awake.B4 = true := by kernel_rfl
theorem w9_awake.only (k : Nat) (r : Bool) (h : w9_awake.f k = some r) : r = true := by
 have h2 : w9_awake.f 7000 = some true := by unfold w9_awake.f; simp only [PureC.base_is 7000 (Nat.le_refl _), PureC.none_table, PureC.base_table, Option.bind_some]; decide +kernel
 have h3 := at_rounds (g := w9_awake.f) w9_awake.mono (Nat.le_max_right k 7000) h2
 have h4 := at_rounds (g := w9_awake.f) w9_awake.mono (Nat.le_max_left k 7000) h
 rw [h3] at h4
 exact (oI h4).symm
set_option maxHeartbeats 8000000 in
set_option maxRecDepth 100000 in
theorem w9_awake.calls (k : Nat)  (r : Bool) (w : World) (h : w9_awake.f k  = some r) :
  Calls Try.prog 8 #[] w fun e w' => e = .returned (.bool r) ∧ Below w.heap.size w w' := by
 have hu23 := Try.underlying23
 have HB := aK (Below.refl w.heap.size w)
 have H : ((w9_rule.f 1 (⟨#[97]⟩ : ByteArray) (⟨#[1]⟩ : ByteArray)).bind fun bt234 => ((check_Table.f ([] : List (S23))).bind fun bt240 => ((r9_Base.f k).bind fun t242 => ((check_Table.f t242).bind fun bt245 => ((w9_rule.f 2 (⟨#[97, 98]⟩ : ByteArray) (⟨#[1, 3]⟩ : ByteArray)).bind fun bt247 => ((check_Clash.f k bt234.1 bt234.2.1 bt234.2.2.1 bt234.2.2.2.1 bt234.2.2.2.2 bt247.1 bt247.2.1 bt247.2.2.1 bt247.2.2.2.1 bt247.2.2.2.2).bind fun t252 => (if t252 = true then ((w9_rule.f 5 (⟨#[120]⟩ : ByteArray) (⟨#[1]⟩ : ByteArray)).bind fun bt253 => ((check_Clash.f k bt234.1 bt234.2.1 bt234.2.2.1 bt234.2.2.2.1 bt234.2.2.2.2 bt253.1 bt253.2.1 bt253.2.2.1 bt253.2.2.2.1 bt253.2.2.2.2).bind fun t258 => (if t258 = true then (some false) else ((w9_rule.f 2 (⟨#[97]⟩ : ByteArray) (⟨#[1]⟩ : ByteArray)).bind fun bt259 => ((w9_rule.f 3 (⟨#[98]⟩ : ByteArray) (⟨#[1]⟩ : ByteArray)).bind fun bt264 => ((check_Clash.f k bt259.1 bt259.2.1 bt259.2.2.1 bt259.2.2.2.1 bt259.2.2.2.2 bt264.1 bt264.2.1 bt264.2.2.1 bt264.2.2.2.1 bt264.2.2.2.2).bind fun t269 => (if t269 = true then (some false) else ((w9_rule.f 8 (⟨#[98, 108, 107]⟩ : ByteArray) (⟨#[8]⟩ : ByteArray)).bind fun bt270 => ((w9_rule.f 1 (⟨#[99]⟩ : ByteArray) (⟨#[8, 16]⟩ : ByteArray)).bind fun bt275 => ((check_Clash.f k bt270.1 bt270.2.1 bt270.2.2.1 bt270.2.2.2.1 bt270.2.2.2.2 bt275.1 bt275.2.1 bt275.2.2.1 bt275.2.2.2.1 bt275.2.2.2.2).bind fun t280 => (if t280 = true then ((w9_rule.f 8 (⟨#[105, 110, 100]⟩ : ByteArray) (⟨#[54]⟩ : ByteArray)).bind fun bt281 => ((check_Alone.f k bt281.1 bt281.2.1 bt281.2.2.1 bt281.2.2.2.1 bt281.2.2.2.2).bind fun t286 => (if t286 = true then ((w9_rule.f 8 (⟨#[105, 110, 100]⟩ : ByteArray) (⟨#[54, 1]⟩ : ByteArray)).bind fun bt287 => ((check_Alone.f k bt287.1 bt287.2.1 bt287.2.2.1 bt287.2.2.2.1 bt287.2.2.2.2).bind fun t292 => (if t292 = true then (some false) else ((check_Missing.f ([] : List (S23))).bind fun t293 => (if t293.toList = ([97] : List UInt8) then (if bt240.1 = 0 then (if bt240.2 = 6 then (if bt245.1 = 0 then (some (bt245.2 == 0)) else (some false)) else (some false)) else (some false)) else (some false)))))) else (some false)))) else (some false)))))))))))) else (some false)))))))) = some r := h
 have hr0 := aK (w9_awake.only k r h)
 clear h
 replace H := oB H
 obtain ⟨⟨t234, t235, t236, t237, t238⟩, A10, H⟩ := H
 try dsimp only at H
 have A1 := aK A10
 clear A10
 replace H := oB H
 obtain ⟨⟨t240, t241⟩, A20, H⟩ := H
 try dsimp only at H
 have A2 := aK A20
 clear A20
 replace H := oB H
 obtain ⟨t242, A30, H⟩ := H
 try dsimp only at H
 have A3 := aK A30
 clear A30
 replace H := oB H
 obtain ⟨⟨t245, t246⟩, A40, H⟩ := H
 try dsimp only at H
 have A4 := aK A40
 clear A40
 replace H := oB H
 obtain ⟨⟨t247, t248, t249, t250, t251⟩, A50, H⟩ := H
 try dsimp only at H
 have A5 := aK A50
 clear A50
 replace H := oB H
 obtain ⟨t252, A60, H⟩ := H
 try dsimp only at H
 have A6 := aK A60
 clear A60
 by_cases c7 : t252 = true
 ·
  subst c7
  have H1 : ((w9_rule.f 5 (⟨#[120]⟩ : ByteArray) (⟨#[1]⟩ : ByteArray)).bind fun bt253 => ((check_Clash.f k t234 t235 t236 t237 t238 bt253.1 bt253.2.1 bt253.2.2.1 bt253.2.2.2.1 bt253.2.2.2.2).bind fun t258 => (if t258 = true then (some false) else ((w9_rule.f 2 (⟨#[97]⟩ : ByteArray) (⟨#[1]⟩ : ByteArray)).bind fun bt259 => ((w9_rule.f 3 (⟨#[98]⟩ : ByteArray) (⟨#[1]⟩ : ByteArray)).bind fun bt264 => ((check_Clash.f k bt259.1 bt259.2.1 bt259.2.2.1 bt259.2.2.2.1 bt259.2.2.2.2 bt264.1 bt264.2.1 bt264.2.2.1 bt264.2.2.2.1 bt264.2.2.2.2).bind fun t269 => (if t269 = true then (some false) else ((w9_rule.f 8 (⟨#[98, 108, 107]⟩ : ByteArray) (⟨#[8]⟩ : ByteArray)).bind fun bt270 => ((w9_rule.f 1 (⟨#[99]⟩ : ByteArray) (⟨#[8, 16]⟩ : ByteArray)).bind fun bt275 => ((check_Clash.f k bt270.1 bt270.2.1 bt270.2.2.1 bt270.2.2.2.1 bt270.2.2.2.2 bt275.1 bt275.2.1 bt275.2.2.1 bt275.2.2.2.1 bt275.2.2.2.2).bind fun t280 => (if t280 = true then ((w9_rule.f 8 (⟨#[105, 110, 100]⟩ : ByteArray) (⟨#[54]⟩ : ByteArray)).bind fun bt281 => ((check_Alone.f k bt281.1 bt281.2.1 bt281.2.2.1 bt281.2.2.2.1 bt281.2.2.2.2).bind fun t286 => (if t286 = true then ((w9_rule.f 8 (⟨#[105, 110, 100]⟩ : ByteArray) (⟨#[54, 1]⟩ : ByteArray)).bind fun bt287 => ((check_Alone.f k bt287.1 bt287.2.1 bt287.2.2.1 bt287.2.2.2.1 bt287.2.2.2.2).bind fun t292 => (if t292 = true then (some false) else ((check_Missing.f ([] : List (S23))).bind fun t293 => (if t293.toList = ([97] : List UInt8) then (if t240 = 0 then (if t241 = 6 then (if t245 = 0 then (some (t246 == 0)) else (some false)) else (some false)) else (some false)) else (some false)))))) else (some false)))) else (some false)))))))))))) = some r := by rw [if_pos rfl] at H; exact H
  clear H
  have H := H1
  clear H1
  replace H := oB H
  obtain ⟨⟨t253, t254, t255, t256, t257⟩, A80, H⟩ := H
  try dsimp only at H
  have A8 := aK A80
  clear A80
  replace H := oB H
  obtain ⟨t258, A90, H⟩ := H
  try dsimp only at H
  have A9 := aK A90
  clear A90
  by_cases c10 : t258 = true
  ·
   subst c10
   have H1 : (some false) = some r := by rw [if_pos rfl] at H; exact H
   clear H
   have H := H1
   clear H1
   exact absurd ((oI H).trans hr0.out) (by decide)
  ·
   replace c10 := Bool.eq_false_iff.mpr c10
   subst c10
   have H1 : ((w9_rule.f 2 (⟨#[97]⟩ : ByteArray) (⟨#[1]⟩ : ByteArray)).bind fun bt259 => ((w9_rule.f 3 (⟨#[98]⟩ : ByteArray) (⟨#[1]⟩ : ByteArray)).bind fun bt264 => ((check_Clash.f k bt259.1 bt259.2.1 bt259.2.2.1 bt259.2.2.2.1 bt259.2.2.2.2 bt264.1 bt264.2.1 bt264.2.2.1 bt264.2.2.2.1 bt264.2.2.2.2).bind fun t269 => (if t269 = true then (some false) else ((w9_rule.f 8 (⟨#[98, 108, 107]⟩ : ByteArray) (⟨#[8]⟩ : ByteArray)).bind fun bt270 => ((w9_rule.f 1 (⟨#[99]⟩ : ByteArray) (⟨#[8, 16]⟩ : ByteArray)).bind fun bt275 => ((check_Clash.f k bt270.1 bt270.2.1 bt270.2.2.1 bt270.2.2.2.1 bt270.2.2.2.2 bt275.1 bt275.2.1 bt275.2.2.1 bt275.2.2.2.1 bt275.2.2.2.2).bind fun t280 => (if t280 = true then ((w9_rule.f 8 (⟨#[105, 110, 100]⟩ : ByteArray) (⟨#[54]⟩ : ByteArray)).bind fun bt281 => ((check_Alone.f k bt281.1 bt281.2.1 bt281.2.2.1 bt281.2.2.2.1 bt281.2.2.2.2).bind fun t286 => (if t286 = true then ((w9_rule.f 8 (⟨#[105, 110, 100]⟩ : ByteArray) (⟨#[54, 1]⟩ : ByteArray)).bind fun bt287 => ((check_Alone.f k bt287.1 bt287.2.1 bt287.2.2.1 bt287.2.2.2.1 bt287.2.2.2.2).bind fun t292 => (if t292 = true then (some false) else ((check_Missing.f ([] : List (S23))).bind fun t293 => (if t293.toList = ([97] : List UInt8) then (if t240 = 0 then (if t241 = 6 then (if t245 = 0 then (some (t246 == 0)) else (some false)) else (some false)) else (some false)) else (some false)))))) else (some false)))) else (some false))))))))) = some r := by rw [if_neg (show ¬ (false = true) by decide)] at H; exact H
   clear H
   have H := H1
   clear H1
   replace H := oB H
   obtain ⟨⟨t259, t260, t261, t262, t263⟩, A230, H⟩ := H
   try dsimp only at H
   have A23 := aK A230
   clear A230
   replace H := oB H
   obtain ⟨⟨t264, t265, t266, t267, t268⟩, A240, H⟩ := H
   try dsimp only at H
   have A24 := aK A240
   clear A240
   replace H := oB H
   obtain ⟨t269, A250, H⟩ := H
   try dsimp only at H
   have A25 := aK A250
   clear A250
   by_cases c26 : t269 = true
   ·
    subst c26
    have H1 : (some false) = some r := by rw [if_pos rfl] at H; exact H
    clear H
    have H := H1
    clear H1
    exact absurd ((oI H).trans hr0.out) (by decide)
   ·
    replace c26 := Bool.eq_false_iff.mpr c26
    subst c26
    have H1 : ((w9_rule.f 8 (⟨#[98, 108, 107]⟩ : ByteArray) (⟨#[8]⟩ : ByteArray)).bind fun bt270 => ((w9_rule.f 1 (⟨#[99]⟩ : ByteArray) (⟨#[8, 16]⟩ : ByteArray)).bind fun bt275 => ((check_Clash.f k bt270.1 bt270.2.1 bt270.2.2.1 bt270.2.2.2.1 bt270.2.2.2.2 bt275.1 bt275.2.1 bt275.2.2.1 bt275.2.2.2.1 bt275.2.2.2.2).bind fun t280 => (if t280 = true then ((w9_rule.f 8 (⟨#[105, 110, 100]⟩ : ByteArray) (⟨#[54]⟩ : ByteArray)).bind fun bt281 => ((check_Alone.f k bt281.1 bt281.2.1 bt281.2.2.1 bt281.2.2.2.1 bt281.2.2.2.2).bind fun t286 => (if t286 = true then ((w9_rule.f 8 (⟨#[105, 110, 100]⟩ : ByteArray) (⟨#[54, 1]⟩ : ByteArray)).bind fun bt287 => ((check_Alone.f k bt287.1 bt287.2.1 bt287.2.2.1 bt287.2.2.2.1 bt287.2.2.2.2).bind fun t292 => (if t292 = true then (some false) else ((check_Missing.f ([] : List (S23))).bind fun t293 => (if t293.toList = ([97] : List UInt8) then (if t240 = 0 then (if t241 = 6 then (if t245 = 0 then (some (t246 == 0)) else (some false)) else (some false)) else (some false)) else (some false)))))) else (some false)))) else (some false))))) = some r := by rw [if_neg (show ¬ (false = true) by decide)] at H; exact H
    clear H
    have H := H1
    clear H1
    replace H := oB H
    obtain ⟨⟨t270, t271, t272, t273, t274⟩, A420, H⟩ := H
    try dsimp only at H
    have A42 := aK A420
    clear A420
    replace H := oB H
    obtain ⟨⟨t275, t276, t277, t278, t279⟩, A430, H⟩ := H
    try dsimp only at H
    have A43 := aK A430
    clear A430
    replace H := oB H
    obtain ⟨t280, A440, H⟩ := H
    try dsimp only at H
    have A44 := aK A440
    clear A440
    by_cases c45 : t280 = true
    ·
     subst c45
     have H1 : ((w9_rule.f 8 (⟨#[105, 110, 100]⟩ : ByteArray) (⟨#[54]⟩ : ByteArray)).bind fun bt281 => ((check_Alone.f k bt281.1 bt281.2.1 bt281.2.2.1 bt281.2.2.2.1 bt281.2.2.2.2).bind fun t286 => (if t286 = true then ((w9_rule.f 8 (⟨#[105, 110, 100]⟩ : ByteArray) (⟨#[54, 1]⟩ : ByteArray)).bind fun bt287 => ((check_Alone.f k bt287.1 bt287.2.1 bt287.2.2.1 bt287.2.2.2.1 bt287.2.2.2.2).bind fun t292 => (if t292 = true then (some false) else ((check_Missing.f ([] : List (S23))).bind fun t293 => (if t293.toList = ([97] : List UInt8) then (if t240 = 0 then (if t241 = 6 then (if t245 = 0 then (some (t246 == 0)) else (some false)) else (some false)) else (some false)) else (some false)))))) else (some false)))) = some r := by rw [if_pos rfl] at H; exact H
     clear H
     have H := H1
     clear H1
     replace H := oB H
     obtain ⟨⟨t281, t282, t283, t284, t285⟩, A460, H⟩ := H
     try dsimp only at H
     have A46 := aK A460
     clear A460
     replace H := oB H
     obtain ⟨t286, A470, H⟩ := H
     try dsimp only at H
     have A47 := aK A470
     clear A470
     by_cases c48 : t286 = true
     ·
      subst c48
      have H1 : ((w9_rule.f 8 (⟨#[105, 110, 100]⟩ : ByteArray) (⟨#[54, 1]⟩ : ByteArray)).bind fun bt287 => ((check_Alone.f k bt287.1 bt287.2.1 bt287.2.2.1 bt287.2.2.2.1 bt287.2.2.2.2).bind fun t292 => (if t292 = true then (some false) else ((check_Missing.f ([] : List (S23))).bind fun t293 => (if t293.toList = ([97] : List UInt8) then (if t240 = 0 then (if t241 = 6 then (if t245 = 0 then (some (t246 == 0)) else (some false)) else (some false)) else (some false)) else (some false)))))) = some r := by rw [if_pos rfl] at H; exact H
      clear H
      have H := H1
      clear H1
      replace H := oB H
      obtain ⟨⟨t287, t288, t289, t290, t291⟩, A490, H⟩ := H
      try dsimp only at H
      have A49 := aK A490
      clear A490
      replace H := oB H
      obtain ⟨t292, A500, H⟩ := H
      try dsimp only at H
      have A50 := aK A500
      clear A500
      by_cases c51 : t292 = true
      ·
       subst c51
       have H1 : (some false) = some r := by rw [if_pos rfl] at H; exact H
       clear H
       have H := H1
       clear H1
       exact absurd ((oI H).trans hr0.out) (by decide)
      ·
       replace c51 := Bool.eq_false_iff.mpr c51
       subst c51
       have H1 : ((check_Missing.f ([] : List (S23))).bind fun t293 => (if t293.toList = ([97] : List UInt8) then (if t240 = 0 then (if t241 = 6 then (if t245 = 0 then (some (t246 == 0)) else (some false)) else (some false)) else (some false)) else (some false))) = some r := by rw [if_neg (show ¬ (false = true) by decide)] at H; exact H
       clear H
       have H := H1
       clear H1
       replace H := oB H
       obtain ⟨t293, A740, H⟩ := H
       try dsimp only at H
       have A74 := aK A740
       clear A740
       by_cases c75 : t293.toList = ([97] : List UInt8)
       ·
        rw [if_pos c75] at H
        have c75b0 : (t293.toList == ([97] : List UInt8)) = true := beq_iff_eq.mpr c75
        have c75b1 : (t293.toList != ([97] : List UInt8)) = false := bne_eq_false_iff_eq.mpr c75
        clear c75
        by_cases c76 : t240 = 0
        ·
         rw [if_pos c76] at H
         have c76b0 : (t240 == 0) = true := beq_iff_eq.mpr c76
         have c76b1 : (t240 != 0) = false := bne_eq_false_iff_eq.mpr c76
         clear c76
         by_cases c77 : t241 = 6
         ·
          rw [if_pos c77] at H
          have c77b0 : (t241 == 6) = true := beq_iff_eq.mpr c77
          have c77b1 : (t241 != 6) = false := bne_eq_false_iff_eq.mpr c77
          clear c77
          by_cases c78 : t245 = 0
          ·
           rw [if_pos c78] at H
           have c78b0 : (t245 == 0) = true := beq_iff_eq.mpr c78
           have c78b1 : (t245 != 0) = false := bne_eq_false_iff_eq.mpr c78
           clear c78
           obtain rfl := oI H
           go_enter Try.func8, Try.ntmps8
           try go_wp2_with (first | (go_at_call 21; (with_reducible refine (w9_rule.calls 1 (⟨#[97]⟩ : ByteArray) (⟨#[1]⟩ : ByteArray) t234 t235 t236 t237 t238 _ A1.out).mono ?_); rintro e w79 ⟨rfl, hb⟩; have n0_ := aK (bSp (by repeat (first | (with_reducible first | exact HB.out | apply bAl | apply pbD | apply bD1) | exact HB.out)) hb); clear HB; have HB := n0_; clear n0_; (try clear hb); (try clear hb2); (try clear hk); (try clear hi)) | ((with_reducible refine gate_dst (N := 1) rfl ?_); refine box_event ?hg (N := 1) ?hd (cs := #[.int .i64 0, .string (⟨#[]⟩ : ByteArray), .string (⟨#[]⟩ : ByteArray), .int .i64 0, .int .i64 0]) (t := 23) ?hr ?_; (case hd => rfl); (case hg => rfl); (case hr => first | (go_simp; done) | (go_simp; rfl)); intro gb239 hg w80 hbox hb; have n0_ := aK (bSp (by repeat (first | (with_reducible first | exact HB.out | apply bAl | apply pbD | apply bD1) | exact HB.out)) hb); have n1_ := aK (hbox); have n2_ := aK ((by rw [hg]; exact (bSz (by repeat (first | (with_reducible first | exact HB.out | apply bAl | apply pbD | apply bD1) | exact HB.out))) : w.heap.size ≤ gb239)); have n3_ := aK ((by rw [hg]; exact (bSz (by repeat (first | (with_reducible first | exact HB.out | apply bAl | apply pbD | apply bD1) | exact HB.out))) : w.heap.size ≤ gb239)); clear HB; have HB := n0_; have BK239 := n1_; have GW239 := n2_; have GE239 := n3_; clear n0_ n1_ n2_ n3_; clear hb hbox hg; have hcz81_0 : w80.cell? ⟨gb239, 0, none⟩ = some (.int .i64 0) := (kCe BK239.out 0).trans rfl; have hcz81_1 : w80.cell? ⟨gb239, 1, none⟩ = some (.string (⟨#[]⟩ : ByteArray)) := (kCe BK239.out 1).trans rfl; have hcz81_2 : w80.cell? ⟨gb239, 2, none⟩ = some (.string (⟨#[]⟩ : ByteArray)) := (kCe BK239.out 2).trans rfl; have hcz81_3 : w80.cell? ⟨gb239, 3, none⟩ = some (.int .i64 0) := (kCe BK239.out 3).trans rfl; have hcz81_4 : w80.cell? ⟨gb239, 4, none⟩ = some (.int .i64 0) := (kCe BK239.out 4).trans rfl; have hfz81_0 := bFz BK239.out 0; have hfz81_1 := bFz BK239.out 1; have hfz81_2 := bFz BK239.out 2; have hfz81_3 := bFz BK239.out 3; have hfz81_4 := bFz BK239.out 4) | ((with_reducible refine gate_callee (f := 15) rfl ?_); refine goesL_ (some 8) rfl rfl Try.func15 (by kernel_rfl) rfl #[.slice none 0 0] rfl (by (try simp only [qM0, qM1, qM2]); first | done | rfl | (simp only [qD0, qD1]; rfl)) ?_; (refine (check_Table.calls _ _ ([] : List (S23)) t240 t241 _ ?side1 ?side2 A2.out).mono ?_); (case side1 => exact Kd.C_nil _ _); (case side2 => exact Nat.le_refl _); rintro e w82 ⟨rfl, hb⟩; refine ⟨_, rfl, ?_⟩; have n0_ := aK (kBe (g := gb239) (o := .cells #[.int .i64 t234, .string t235, .string t236, .int .i64 t237, .int .i64 t238] 23 (0, 0)) (by (with_reducible repeat (first | refine kDN ?_ _ | refine kDr ?_ | refine kAl ?_ _)); refine blk_put (cs := #[.int .i64 t234, .string t235, .string t236, .int .i64 t237, .int .i64 0]) ?_ 4 _ rfl; (with_reducible repeat (first | refine kDN ?_ _ | refine kDr ?_ | refine kAl ?_ _)); refine blk_put (cs := #[.int .i64 t234, .string t235, .string t236, .int .i64 0, .int .i64 0]) ?_ 3 _ rfl; (with_reducible repeat (first | refine kDN ?_ _ | refine kDr ?_ | refine kAl ?_ _)); refine blk_put (cs := #[.int .i64 t234, .string t235, .string (⟨#[]⟩ : ByteArray), .int .i64 0, .int .i64 0]) ?_ 2 _ rfl; (with_reducible repeat (first | refine kDN ?_ _ | refine kDr ?_ | refine kAl ?_ _)); refine blk_put (cs := #[.int .i64 t234, .string (⟨#[]⟩ : ByteArray), .string (⟨#[]⟩ : ByteArray), .int .i64 0, .int .i64 0]) ?_ 1 _ rfl; (with_reducible repeat (first | refine kDN ?_ _ | refine kDr ?_ | refine kAl ?_ _)); refine blk_put (cs := #[.int .i64 0, .string (⟨#[]⟩ : ByteArray), .string (⟨#[]⟩ : ByteArray), .int .i64 0, .int .i64 0]) ?_ 0 _ rfl; (with_reducible repeat (first | refine kDN ?_ _ | refine kDr ?_ | refine kAl ?_ _)); exact BK239.out) hb); have n1_ := aK (bSp (by repeat (first | (with_reducible first | exact HB.out | apply bAl | apply pbD | apply bD1 | refine bSt ?_ GE239.out) | exact HB.out)) hb); clear BK239; clear HB; have BK239 := n0_; have HB := n1_; clear n0_ n1_; (try clear hb); (try clear hb2); (try clear hk); (try clear hi)) | (go_at_call 22; (with_reducible refine (r9_Base.calls k  t242 _ A3.out).mono ?_); rintro e w83 ⟨v243, rfl, ho0, hb⟩; have n0_ := aK (Kd.R_lower (Kd.R_newB ho0 (g := gb239) (o := .cells #[.int .i64 t234, .string t235, .string t236, .int .i64 t237, .int .i64 t238] 23 (0, 0)) (by (with_reducible repeat (first | refine kDN ?_ _ | refine kDr ?_ | refine kAl ?_ _)); exact BK239.out)) (bSz (by repeat (first | (with_reducible first | exact HB.out | apply bAl | apply pbD | apply bD1 | refine bSt ?_ GE239.out) | exact HB.out)))); have n1_ := aK (kBe (g := gb239) (o := .cells #[.int .i64 t234, .string t235, .string t236, .int .i64 t237, .int .i64 t238] 23 (0, 0)) (by (with_reducible repeat (first | refine kDN ?_ _ | refine kDr ?_ | refine kAl ?_ _)); exact BK239.out) hb); have n2_ := aK (bSp (by repeat (first | (with_reducible first | exact HB.out | apply bAl | apply pbD | apply bD1 | refine bSt ?_ GE239.out) | exact HB.out)) hb); clear BK239; clear HB; have HO244 := n0_; have BK239 := n1_; have HB := n2_; clear n0_ n1_ n2_; (try clear hb); (try clear hb2); (try clear hk); (try clear hi); (try clear ho0); obtain ⟨Ao84, co84, eo84⟩ := Kd.R_slice HO244.out; subst eo84) | (go_at_call 15; (with_reducible refine (check_Table.calls _ _ t242 t245 t246 _ ?side1 ?side2 A4.out).mono ?_); (case side1 => repeat (first | exact (Kd.R_reads' HO244.out).2.2 | (with_reducible refine Kd.C_alloc ?_ _) | (with_reducible refine Kd.C_drewN ?_ _) | (with_reducible refine Kd.C_drew ?_))); (case side2 => exact (Kd.R_reads' HO244.out).2.1); rintro e w85 ⟨rfl, hb⟩; have n0_ := aK (Kd.R_below (by (with_reducible repeat (first | apply Kd.R_alloc | apply Kd.R_drewN | apply Kd.R_drew)); exact HO244.out) hb); have n1_ := aK (kBe (g := gb239) (o := .cells #[.int .i64 t234, .string t235, .string t236, .int .i64 t237, .int .i64 t238] 23 (0, 0)) (by (with_reducible repeat (first | refine kDN ?_ _ | refine kDr ?_ | refine kAl ?_ _)); exact BK239.out) hb); have n2_ := aK (bSp (by repeat (first | (with_reducible first | exact HB.out | apply bAl | apply pbD | apply bD1 | refine bSt ?_ GE239.out) | exact HB.out)) hb); clear HO244; clear BK239; clear HB; have HO244 := n0_; have BK239 := n1_; have HB := n2_; clear n0_ n1_ n2_; (try clear hb); (try clear hb2); (try clear hk); (try clear hi)))
           have n0_ := aK (Kd.R_drew HO244.out)
           have n1_ := aK (kDr BK239.out)
           have n2_ := aK (bD1 HB.out)
           clear HO244
           clear BK239
           clear HB
           have HO244 := n0_
           have BK239 := n1_
           have HB := n2_
           clear n0_ n1_ n2_
           refine start_ (n := 50) (S := fun w' => w'.cell? ⟨gb239, 0, none⟩ = some (.int .i64 t234) ∧ w'.cell? ⟨gb239, 1, none⟩ = some (.string t235) ∧ w'.cell? ⟨gb239, 2, none⟩ = some (.string t236) ∧ w'.cell? ⟨gb239, 3, none⟩ = some (.int .i64 t237) ∧ w'.cell? ⟨gb239, 4, none⟩ = some (.int .i64 t238)) (ds := []) #[false, false, false, false, false, false, false, false, false, false, false, false, false, false, false, false, false, false, false, false, false, false, false, false, false, false, false, false, false, false, false, false, false, false, false, false, false, false, false, false, false, false, false, false, false, false, false, false, false, false] (by kernel_rfl) rfl rfl ⟨(kCe BK239.out 0).trans rfl, (kCe BK239.out 1).trans rfl, (kCe BK239.out 2).trans rfl, (kCe BK239.out 3).trans rfl, (kCe BK239.out 4).trans rfl⟩ (fun hHeld => ?_); refine with_tabW w9_awake.tab4 w9_awake.bits4 (fun HT_ HW_ => ?_)
           generalize w85.drew = w86 at HO244 BK239 HB hHeld ⊢
           refine take_ (i := 0) (N := some 16) (v := ?_) (a' := ?_) #[true, false, false, false, false, false, false, false, false, false, false, false, false, false, false, false, false, false, false, false, false, false, false, false, false, false, false, false, false, false, false, false, false, false, false, false, false, false, false, false, false, false, false, false, false, false, false, false, false, false] rfl rfl (take_ofW HT_.out HW_.out (by kernel_rfl)) (fun _ _ _ h => h) (Or.inl ⟨by rfl, ?_⟩) hHeld ?_ ?_
           rotate_left
           ·
            rintro w' ⟨s0, s1, s2, s3, s4⟩
            go_simp
            with_reducible rfl
           rotate_left
           ·
            simp only [Act.put, qSa, qS0, qS1, i64_w, i32_w]
            rfl
           refine one_ (i := 1) (N := some 17) #[true, true, false, false, false, false, false, false, false, false, false, false, false, false, false, false, false, false, false, false, false, false, false, false, false, false, false, false, false, false, false, false, false, false, false, false, false, false, false, false, false, false, false, false, false, false, false, false, false, false] rfl rfl (one_of HT_.out (by kernel_rfl)) (by decide) (fun K hK => ?_)
           refine goes_ Try.func21 (by kernel_rfl) rfl #[.int .i64 2, .string (⟨#[97, 98]⟩ : ByteArray), .string (⟨#[1, 3]⟩ : ByteArray)] (by rfl) rfl rfl (by (try simp only [qM0, qM1, qM2]); first | done | rfl | (simp only [qD0, qD1]; rfl)) ?_
           with_reducible refine (w9_rule.calls 2 (⟨#[97, 98]⟩ : ByteArray) (⟨#[1, 3]⟩ : ByteArray) t247 t248 t249 t250 t251 _ A5.out).mono ?_
           rintro e w87 ⟨rfl, hb⟩
           refine ⟨_, rfl, ?_⟩
           have n0_ := aK (Kd.R_below (by (with_reducible repeat (first | apply Kd.R_alloc | apply Kd.R_drewN | apply Kd.R_drew)); exact HO244.out) hb)
           have n1_ := aK (kBe (g := gb239) (o := .cells #[.int .i64 t234, .string t235, .string t236, .int .i64 t237, .int .i64 t238] 23 (0, 0)) (by (with_reducible repeat (first | refine kDN ?_ _ | refine kDr ?_ | refine kAl ?_ _)); exact BK239.out) hb)
           have n2_ := aK (bSp (by repeat (first | (with_reducible first | exact HB.out | apply bAl | apply pbD | apply bD1 | refine bSt ?_ GE239.out) | exact HB.out)) hb)
           clear HO244
           clear BK239
           clear HB
           have HO244 := n0_
           have BK239 := n1_
           have HB := n2_
           clear n0_ n1_ n2_
           (try clear hb)
           (try clear hb2)
           (try clear hk)
           (try clear hi)
           refine hK.out _ _ ⟨(kCe BK239.out 0).trans rfl, (kCe BK239.out 1).trans rfl, (kCe BK239.out 2).trans rfl, (kCe BK239.out 3).trans rfl, (kCe BK239.out 4).trans rfl⟩ (fun hHeld => ?_)
           clear hK K
           refine norm_ (a' := ?_) ?_ ?_
           rotate_left
           ·
            show Act.put _ (some 17) _ = _
            simp only [Act.put, qSa, qS0, qS1, i64_w, i32_w]
            rfl
           refine one_ (i := 2) (N := some 18) #[true, true, true, false, false, false, false, false, false, false, false, false, false, false, false, false, false, false, false, false, false, false, false, false, false, false, false, false, false, false, false, false, false, false, false, false, false, false, false, false, false, false, false, false, false, false, false, false, false, false] rfl rfl (one_of HT_.out (by kernel_rfl)) (by decide) (fun K hK => ?_)
           refine goes_ Try.func9 (by kernel_rfl) rfl #[.agg #[.int .i64 t234, .string t235, .string t236, .int .i64 t237, .int .i64 t238], .agg #[.int .i64 t247, .string t248, .string t249, .int .i64 t250, .int .i64 t251]] (by rfl) rfl rfl (by (try simp only [qM0, qM1, qM2]); first | done | rfl | (simp only [qD0, qD1]; rfl)) ?_
           with_reducible refine (check_Clash.calls k t234 t235 t236 t237 t238 t247 t248 t249 t250 t251 true _ A6.out).mono ?_
           rintro e w88 ⟨rfl, hb⟩
           refine ⟨_, rfl, ?_⟩
           have n0_ := aK (Kd.R_below (by (with_reducible repeat (first | apply Kd.R_alloc | apply Kd.R_drewN | apply Kd.R_drew)); exact HO244.out) hb)
           have n1_ := aK (kBe (g := gb239) (o := .cells #[.int .i64 t234, .string t235, .string t236, .int .i64 t237, .int .i64 t238] 23 (0, 0)) (by (with_reducible repeat (first | refine kDN ?_ _ | refine kDr ?_ | refine kAl ?_ _)); exact BK239.out) hb)
           have n2_ := aK (bSp (by repeat (first | (with_reducible first | exact HB.out | apply bAl | apply pbD | apply bD1 | refine bSt ?_ GE239.out) | exact HB.out)) hb)
           clear HO244
           clear BK239
           clear HB
           have HO244 := n0_
           have BK239 := n1_
           have HB := n2_
           clear n0_ n1_ n2_
           (try clear hb)
           (try clear hb2)
           (try clear hk)
           (try clear hi)
           refine hK.out _ _ ⟨(kCe BK239.out 0).trans rfl, (kCe BK239.out 1).trans rfl, (kCe BK239.out 2).trans rfl, (kCe BK239.out 3).trans rfl, (kCe BK239.out 4).trans rfl⟩ (fun hHeld => ?_)
           clear hK K
           refine norm_ (a' := ?_) ?_ ?_
           rotate_left
           ·
            show Act.put _ (some 18) _ = _
            simp only [Act.put, qSa, qS0, qS1, i64_w, i32_w]
            rfl
           refine pure_ (i := 3) (N := some 19) (v := ?_) (a' := ?_) #[true, true, true, true, false, false, false, false, false, false, false, false, false, false, false, false, false, false, false, false, false, false, false, false, false, false, false, false, false, false, false, false, false, false, false, false, false, false, false, false, false, false, false, false, false, false, false, false, false, false] rfl rfl (any_of HT_.out (by kernel_rfl)) (fun _ _ _ h => h) (Or.inl ⟨by rfl, ?_⟩) ?_ ?_
           rotate_left
           ·
            intro w'
            go_simp
            with_reducible rfl
           rotate_left
           ·
            simp only [Act.put, qSa, qS0, qS1, i64_w, i32_w]
            rfl
           refine take_ (i := 4) (N := some 20) (v := ?_) (a' := ?_) #[true, true, true, true, true, false, false, false, false, false, false, false, false, false, false, false, false, false, false, false, false, false, false, false, false, false, false, false, false, false, false, false, false, false, false, false, false, false, false, false, false, false, false, false, false, false, false, false, false, false] rfl rfl (take_ofW HT_.out HW_.out (by kernel_rfl)) (fun _ _ _ h => h) (Or.inl ⟨by rfl, ?_⟩) hHeld ?_ ?_
           rotate_left
           ·
            rintro w' ⟨s0, s1, s2, s3, s4⟩
            go_simp
            with_reducible rfl
           rotate_left
           ·
            simp only [Act.put, qSa, qS0, qS1, i64_w, i32_w]
            rfl
           refine one_ (i := 5) (N := some 21) #[true, true, true, true, true, true, false, false, false, false, false, false, false, false, false, false, false, false, false, false, false, false, false, false, false, false, false, false, false, false, false, false, false, false, false, false, false, false, false, false, false, false, false, false, false, false, false, false, false, false] rfl rfl (one_of HT_.out (by kernel_rfl)) (by decide) (fun K hK => ?_)
           refine goes_ Try.func21 (by kernel_rfl) rfl #[.int .i64 5, .string (⟨#[120]⟩ : ByteArray), .string (⟨#[1]⟩ : ByteArray)] (by rfl) rfl rfl (by (try simp only [qM0, qM1, qM2]); first | done | rfl | (simp only [qD0, qD1]; rfl)) ?_
           with_reducible refine (w9_rule.calls 5 (⟨#[120]⟩ : ByteArray) (⟨#[1]⟩ : ByteArray) t253 t254 t255 t256 t257 _ A8.out).mono ?_
           rintro e w89 ⟨rfl, hb⟩
           refine ⟨_, rfl, ?_⟩
           have n0_ := aK (Kd.R_below (by (with_reducible repeat (first | apply Kd.R_alloc | apply Kd.R_drewN | apply Kd.R_drew)); exact HO244.out) hb)
           have n1_ := aK (kBe (g := gb239) (o := .cells #[.int .i64 t234, .string t235, .string t236, .int .i64 t237, .int .i64 t238] 23 (0, 0)) (by (with_reducible repeat (first | refine kDN ?_ _ | refine kDr ?_ | refine kAl ?_ _)); exact BK239.out) hb)
           have n2_ := aK (bSp (by repeat (first | (with_reducible first | exact HB.out | apply bAl | apply pbD | apply bD1 | refine bSt ?_ GE239.out) | exact HB.out)) hb)
           clear HO244
           clear BK239
           clear HB
           have HO244 := n0_
           have BK239 := n1_
           have HB := n2_
           clear n0_ n1_ n2_
           (try clear hb)
           (try clear hb2)
           (try clear hk)
           (try clear hi)
           refine hK.out _ _ ⟨(kCe BK239.out 0).trans rfl, (kCe BK239.out 1).trans rfl, (kCe BK239.out 2).trans rfl, (kCe BK239.out 3).trans rfl, (kCe BK239.out 4).trans rfl⟩ (fun hHeld => ?_)
           clear hK K
           refine norm_ (a' := ?_) ?_ ?_
           rotate_left
           ·
            show Act.put _ (some 21) _ = _
            simp only [Act.put, qSa, qS0, qS1, i64_w, i32_w]
            rfl
           refine one_ (i := 6) (N := some 22) #[true, true, true, true, true, true, true, false, false, false, false, false, false, false, false, false, false, false, false, false, false, false, false, false, false, false, false, false, false, false, false, false, false, false, false, false, false, false, false, false, false, false, false, false, false, false, false, false, false, false] rfl rfl (one_of HT_.out (by kernel_rfl)) (by decide) (fun K hK => ?_)
           refine goes_ Try.func9 (by kernel_rfl) rfl #[.agg #[.int .i64 t234, .string t235, .string t236, .int .i64 t237, .int .i64 t238], .agg #[.int .i64 t253, .string t254, .string t255, .int .i64 t256, .int .i64 t257]] (by rfl) rfl rfl (by (try simp only [qM0, qM1, qM2]); first | done | rfl | (simp only [qD0, qD1]; rfl)) ?_
           with_reducible refine (check_Clash.calls k t234 t235 t236 t237 t238 t253 t254 t255 t256 t257 false _ A9.out).mono ?_
           rintro e w90 ⟨rfl, hb⟩
           refine ⟨_, rfl, ?_⟩
           have n0_ := aK (Kd.R_below (by (with_reducible repeat (first | apply Kd.R_alloc | apply Kd.R_drewN | apply Kd.R_drew)); exact HO244.out) hb)
           have n1_ := aK (kBe (g := gb239) (o := .cells #[.int .i64 t234, .string t235, .string t236, .int .i64 t237, .int .i64 t238] 23 (0, 0)) (by (with_reducible repeat (first | refine kDN ?_ _ | refine kDr ?_ | refine kAl ?_ _)); exact BK239.out) hb)
           have n2_ := aK (bSp (by repeat (first | (with_reducible first | exact HB.out | apply bAl | apply pbD | apply bD1 | refine bSt ?_ GE239.out) | exact HB.out)) hb)
           clear HO244
           clear BK239
           clear HB
           have HO244 := n0_
           have BK239 := n1_
           have HB := n2_
           clear n0_ n1_ n2_
           (try clear hb)
           (try clear hb2)
           (try clear hk)
           (try clear hi)
           refine hK.out _ _ ⟨(kCe BK239.out 0).trans rfl, (kCe BK239.out 1).trans rfl, (kCe BK239.out 2).trans rfl, (kCe BK239.out 3).trans rfl, (kCe BK239.out 4).trans rfl⟩ (fun hHeld => ?_)
           clear hK K
           refine norm_ (a' := ?_) ?_ ?_
           rotate_left
           ·
            show Act.put _ (some 22) _ = _
            simp only [Act.put, qSa, qS0, qS1, i64_w, i32_w]
            rfl
           refine pure_ (i := 7) (N := some 23) (v := ?_) (a' := ?_) #[true, true, true, true, true, true, true, true, false, false, false, false, false, false, false, false, false, false, false, false, false, false, false, false, false, false, false, false, false, false, false, false, false, false, false, false, false, false, false, false, false, false, false, false, false, false, false, false, false, false] rfl rfl (any_of HT_.out (by kernel_rfl)) (fun _ _ _ h => h) (Or.inl ⟨by rfl, ?_⟩) ?_ ?_
           rotate_left
           ·
            intro w'
            go_simp
            with_reducible rfl
           rotate_left
           ·
            simp only [Act.put, qSa, qS0, qS1, i64_w, i32_w]
            rfl
           refine pure_ (i := 8) (N := some 24) (v := ?_) (a' := ?_) #[true, true, true, true, true, true, true, true, true, false, false, false, false, false, false, false, false, false, false, false, false, false, false, false, false, false, false, false, false, false, false, false, false, false, false, false, false, false, false, false, false, false, false, false, false, false, false, false, false, false] rfl rfl (any_of HT_.out (by kernel_rfl)) (fun _ _ _ h => h) (Or.inl ⟨by rfl, ?_⟩) ?_ ?_
           rotate_left
           ·
            intro w'
            go_simp
            with_reducible rfl
           rotate_left
           ·
            simp only [Act.put, qSa, qS0, qS1, i64_w, i32_w]
            rfl
           refine pure_ (i := 9) (N := some 25) (v := ?_) (a' := ?_) #[true, true, true, true, true, true, true, true, true, true, false, false, false, false, false, false, false, false, false, false, false, false, false, false, false, false, false, false, false, false, false, false, false, false, false, false, false, false, false, false, false, false, false, false, false, false, false, false, false, false] rfl rfl (any_of HT_.out (by kernel_rfl)) (fun _ _ _ h => h) (Or.inl ⟨by rfl, ?_⟩) ?_ ?_
           rotate_left
           ·
            intro w'
            go_simp
            with_reducible rfl
           rotate_left
           ·
            simp only [Act.put, qSa, qS0, qS1, i64_w, i32_w]
            rfl
           refine one_ (i := 10) (N := some 26) #[true, true, true, true, true, true, true, true, true, true, true, false, false, false, false, false, false, false, false, false, false, false, false, false, false, false, false, false, false, false, false, false, false, false, false, false, false, false, false, false, false, false, false, false, false, false, false, false, false, false] rfl rfl (one_of HT_.out (by kernel_rfl)) (by decide) (fun K hK => ?_)
           refine goes_ Try.func21 (by kernel_rfl) rfl #[.int .i64 2, .string (⟨#[97]⟩ : ByteArray), .string (⟨#[1]⟩ : ByteArray)] (by rfl) rfl rfl (by (try simp only [qM0, qM1, qM2]); first | done | rfl | (simp only [qD0, qD1]; rfl)) ?_
           with_reducible refine (w9_rule.calls 2 (⟨#[97]⟩ : ByteArray) (⟨#[1]⟩ : ByteArray) t259 t260 t261 t262 t263 _ A23.out).mono ?_
           rintro e w91 ⟨rfl, hb⟩
           refine ⟨_, rfl, ?_⟩
           have n0_ := aK (Kd.R_below (by (with_reducible repeat (first | apply Kd.R_alloc | apply Kd.R_drewN | apply Kd.R_drew)); exact HO244.out) hb)
           have n1_ := aK (kBe (g := gb239) (o := .cells #[.int .i64 t234, .string t235, .string t236, .int .i64 t237, .int .i64 t238] 23 (0, 0)) (by (with_reducible repeat (first | refine kDN ?_ _ | refine kDr ?_ | refine kAl ?_ _)); exact BK239.out) hb)
           have n2_ := aK (bSp (by repeat (first | (with_reducible first | exact HB.out | apply bAl | apply pbD | apply bD1 | refine bSt ?_ GE239.out) | exact HB.out)) hb)
           clear HO244
           clear BK239
           clear HB
           have HO244 := n0_
           have BK239 := n1_
           have HB := n2_
           clear n0_ n1_ n2_
           (try clear hb)
           (try clear hb2)
           (try clear hk)
           (try clear hi)
           refine hK.out _ _ ⟨(kCe BK239.out 0).trans rfl, (kCe BK239.out 1).trans rfl, (kCe BK239.out 2).trans rfl, (kCe BK239.out 3).trans rfl, (kCe BK239.out 4).trans rfl⟩ (fun hHeld => ?_)
           clear hK K
           refine norm_ (a' := ?_) ?_ ?_
           rotate_left
           ·
            show Act.put _ (some 26) _ = _
            simp only [Act.put, qSa, qS0, qS1, i64_w, i32_w]
            rfl
           refine one_ (i := 11) (N := some 27) #[true, true, true, true, true, true, true, true, true, true, true, true, false, false, false, false, false, false, false, false, false, false, false, false, false, false, false, false, false, false, false, false, false, false, false, false, false, false, false, false, false, false, false, false, false, false, false, false, false, false] rfl rfl (one_of HT_.out (by kernel_rfl)) (by decide) (fun K hK => ?_)
           refine goes_ Try.func21 (by kernel_rfl) rfl #[.int .i64 3, .string (⟨#[98]⟩ : ByteArray), .string (⟨#[1]⟩ : ByteArray)] (by rfl) rfl rfl (by (try simp only [qM0, qM1, qM2]); first | done | rfl | (simp only [qD0, qD1]; rfl)) ?_
           with_reducible refine (w9_rule.calls 3 (⟨#[98]⟩ : ByteArray) (⟨#[1]⟩ : ByteArray) t264 t265 t266 t267 t268 _ A24.out).mono ?_
           rintro e w92 ⟨rfl, hb⟩
           refine ⟨_, rfl, ?_⟩
           have n0_ := aK (Kd.R_below (by (with_reducible repeat (first | apply Kd.R_alloc | apply Kd.R_drewN | apply Kd.R_drew)); exact HO244.out) hb)
           have n1_ := aK (kBe (g := gb239) (o := .cells #[.int .i64 t234, .string t235, .string t236, .int .i64 t237, .int .i64 t238] 23 (0, 0)) (by (with_reducible repeat (first | refine kDN ?_ _ | refine kDr ?_ | refine kAl ?_ _)); exact BK239.out) hb)
           have n2_ := aK (bSp (by repeat (first | (with_reducible first | exact HB.out | apply bAl | apply pbD | apply bD1 | refine bSt ?_ GE239.out) | exact HB.out)) hb)
           clear HO244
           clear BK239
           clear HB
           have HO244 := n0_
           have BK239 := n1_
           have HB := n2_
           clear n0_ n1_ n2_
           (try clear hb)
           (try clear hb2)
           (try clear hk)
           (try clear hi)
           refine hK.out _ _ ⟨(kCe BK239.out 0).trans rfl, (kCe BK239.out 1).trans rfl, (kCe BK239.out 2).trans rfl, (kCe BK239.out 3).trans rfl, (kCe BK239.out 4).trans rfl⟩ (fun hHeld => ?_)
           clear hK K
           refine norm_ (a' := ?_) ?_ ?_
           rotate_left
           ·
            show Act.put _ (some 27) _ = _
            simp only [Act.put, qSa, qS0, qS1, i64_w, i32_w]
            rfl
           refine one_ (i := 12) (N := some 28) #[true, true, true, true, true, true, true, true, true, true, true, true, true, false, false, false, false, false, false, false, false, false, false, false, false, false, false, false, false, false, false, false, false, false, false, false, false, false, false, false, false, false, false, false, false, false, false, false, false, false] rfl rfl (one_of HT_.out (by kernel_rfl)) (by decide) (fun K hK => ?_)
           refine goes_ Try.func9 (by kernel_rfl) rfl #[.agg #[.int .i64 t259, .string t260, .string t261, .int .i64 t262, .int .i64 t263], .agg #[.int .i64 t264, .string t265, .string t266, .int .i64 t267, .int .i64 t268]] (by rfl) rfl rfl (by (try simp only [qM0, qM1, qM2]); first | done | rfl | (simp only [qD0, qD1]; rfl)) ?_
           with_reducible refine (check_Clash.calls k t259 t260 t261 t262 t263 t264 t265 t266 t267 t268 false _ A25.out).mono ?_
           rintro e w93 ⟨rfl, hb⟩
           refine ⟨_, rfl, ?_⟩
           have n0_ := aK (Kd.R_below (by (with_reducible repeat (first | apply Kd.R_alloc | apply Kd.R_drewN | apply Kd.R_drew)); exact HO244.out) hb)
           have n1_ := aK (kBe (g := gb239) (o := .cells #[.int .i64 t234, .string t235, .string t236, .int .i64 t237, .int .i64 t238] 23 (0, 0)) (by (with_reducible repeat (first | refine kDN ?_ _ | refine kDr ?_ | refine kAl ?_ _)); exact BK239.out) hb)
           have n2_ := aK (bSp (by repeat (first | (with_reducible first | exact HB.out | apply bAl | apply pbD | apply bD1 | refine bSt ?_ GE239.out) | exact HB.out)) hb)
           clear HO244
           clear BK239
           clear HB
           have HO244 := n0_
           have BK239 := n1_
           have HB := n2_
           clear n0_ n1_ n2_
           (try clear hb)
           (try clear hb2)
           (try clear hk)
           (try clear hi)
           refine hK.out _ _ ⟨(kCe BK239.out 0).trans rfl, (kCe BK239.out 1).trans rfl, (kCe BK239.out 2).trans rfl, (kCe BK239.out 3).trans rfl, (kCe BK239.out 4).trans rfl⟩ (fun hHeld => ?_)
           clear hK K
           refine norm_ (a' := ?_) ?_ ?_
           rotate_left
           ·
            show Act.put _ (some 28) _ = _
            simp only [Act.put, qSa, qS0, qS1, i64_w, i32_w]
            rfl
           refine pure_ (i := 13) (N := some 29) (v := ?_) (a' := ?_) #[true, true, true, true, true, true, true, true, true, true, true, true, true, true, false, false, false, false, false, false, false, false, false, false, false, false, false, false, false, false, false, false, false, false, false, false, false, false, false, false, false, false, false, false, false, false, false, false, false, false] rfl rfl (any_of HT_.out (by kernel_rfl)) (fun _ _ _ h => h) (Or.inl ⟨by rfl, ?_⟩) ?_ ?_
           rotate_left
           ·
            intro w'
            go_simp
            with_reducible rfl
           rotate_left
           ·
            simp only [Act.put, qSa, qS0, qS1, i64_w, i32_w]
            rfl
           refine pure_ (i := 14) (N := some 30) (v := ?_) (a' := ?_) #[true, true, true, true, true, true, true, true, true, true, true, true, true, true, true, false, false, false, false, false, false, false, false, false, false, false, false, false, false, false, false, false, false, false, false, false, false, false, false, false, false, false, false, false, false, false, false, false, false, false] rfl rfl (any_of HT_.out (by kernel_rfl)) (fun _ _ _ h => h) (Or.inl ⟨by rfl, ?_⟩) ?_ ?_
           rotate_left
           ·
            intro w'
            go_simp
            with_reducible rfl
           rotate_left
           ·
            simp only [Act.put, qSa, qS0, qS1, i64_w, i32_w]
            rfl
           refine pure_ (i := 15) (N := some 31) (v := ?_) (a' := ?_) #[true, true, true, true, true, true, true, true, true, true, true, true, true, true, true, true, false, false, false, false, false, false, false, false, false, false, false, false, false, false, false, false, false, false, false, false, false, false, false, false, false, false, false, false, false, false, false, false, false, false] rfl rfl (any_of HT_.out (by kernel_rfl)) (fun _ _ _ h => h) (Or.inl ⟨by rfl, ?_⟩) ?_ ?_
           rotate_left
           ·
            intro w'
            go_simp
            with_reducible rfl
           rotate_left
           ·
            simp only [Act.put, qSa, qS0, qS1, i64_w, i32_w]
            rfl
           refine one_ (i := 16) (N := some 32) #[true, true, true, true, true, true, true, true, true, true, true, true, true, true, true, true, true, false, false, false, false, false, false, false, false, false, false, false, false, false, false, false, false, false, false, false, false, false, false, false, false, false, false, false, false, false, false, false, false, false] rfl rfl (one_of HT_.out (by kernel_rfl)) (by decide) (fun K hK => ?_)
           refine goes_ Try.func21 (by kernel_rfl) rfl #[.int .i64 8, .string (⟨#[98, 108, 107]⟩ : ByteArray), .string (⟨#[8]⟩ : ByteArray)] (by rfl) rfl rfl (by (try simp only [qM0, qM1, qM2]); first | done | rfl | (simp only [qD0, qD1]; rfl)) ?_
           with_reducible refine (w9_rule.calls 8 (⟨#[98, 108, 107]⟩ : ByteArray) (⟨#[8]⟩ : ByteArray) t270 t271 t272 t273 t274 _ A42.out).mono ?_
           rintro e w94 ⟨rfl, hb⟩
           refine ⟨_, rfl, ?_⟩
           have n0_ := aK (Kd.R_below (by (with_reducible repeat (first | apply Kd.R_alloc | apply Kd.R_drewN | apply Kd.R_drew)); exact HO244.out) hb)
           have n1_ := aK (kBe (g := gb239) (o := .cells #[.int .i64 t234, .string t235, .string t236, .int .i64 t237, .int .i64 t238] 23 (0, 0)) (by (with_reducible repeat (first | refine kDN ?_ _ | refine kDr ?_ | refine kAl ?_ _)); exact BK239.out) hb)
           have n2_ := aK (bSp (by repeat (first | (with_reducible first | exact HB.out | apply bAl | apply pbD | apply bD1 | refine bSt ?_ GE239.out) | exact HB.out)) hb)
           clear HO244
           clear BK239
           clear HB
           have HO244 := n0_
           have BK239 := n1_
           have HB := n2_
           clear n0_ n1_ n2_
           (try clear hb)
           (try clear hb2)
           (try clear hk)
           (try clear hi)
           refine hK.out _ _ ⟨(kCe BK239.out 0).trans rfl, (kCe BK239.out 1).trans rfl, (kCe BK239.out 2).trans rfl, (kCe BK239.out 3).trans rfl, (kCe BK239.out 4).trans rfl⟩ (fun hHeld => ?_)
           clear hK K
           refine norm_ (a' := ?_) ?_ ?_
           rotate_left
           ·
            show Act.put _ (some 32) _ = _
            simp only [Act.put, qSa, qS0, qS1, i64_w, i32_w]
            rfl
           refine one_ (i := 17) (N := some 33) #[true, true, true, true, true, true, true, true, true, true, true, true, true, true, true, true, true, true, false, false, false, false, false, false, false, false, false, false, false, false, false, false, false, false, false, false, false, false, false, false, false, false, false, false, false, false, false, false, false, false] rfl rfl (one_of HT_.out (by kernel_rfl)) (by decide) (fun K hK => ?_)
           refine goes_ Try.func21 (by kernel_rfl) rfl #[.int .i64 1, .string (⟨#[99]⟩ : ByteArray), .string (⟨#[8, 16]⟩ : ByteArray)] (by rfl) rfl rfl (by (try simp only [qM0, qM1, qM2]); first | done | rfl | (simp only [qD0, qD1]; rfl)) ?_
           with_reducible refine (w9_rule.calls 1 (⟨#[99]⟩ : ByteArray) (⟨#[8, 16]⟩ : ByteArray) t275 t276 t277 t278 t279 _ A43.out).mono ?_
           rintro e w95 ⟨rfl, hb⟩
           refine ⟨_, rfl, ?_⟩
           have n0_ := aK (Kd.R_below (by (with_reducible repeat (first | apply Kd.R_alloc | apply Kd.R_drewN | apply Kd.R_drew)); exact HO244.out) hb)
           have n1_ := aK (kBe (g := gb239) (o := .cells #[.int .i64 t234, .string t235, .string t236, .int .i64 t237, .int .i64 t238] 23 (0, 0)) (by (with_reducible repeat (first | refine kDN ?_ _ | refine kDr ?_ | refine kAl ?_ _)); exact BK239.out) hb)
           have n2_ := aK (bSp (by repeat (first | (with_reducible first | exact HB.out | apply bAl | apply pbD | apply bD1 | refine bSt ?_ GE239.out) | exact HB.out)) hb)
           clear HO244
           clear BK239
           clear HB
           have HO244 := n0_
           have BK239 := n1_
           have HB := n2_
           clear n0_ n1_ n2_
           (try clear hb)
           (try clear hb2)
           (try clear hk)
           (try clear hi)
           refine hK.out _ _ ⟨(kCe BK239.out 0).trans rfl, (kCe BK239.out 1).trans rfl, (kCe BK239.out 2).trans rfl, (kCe BK239.out 3).trans rfl, (kCe BK239.out 4).trans rfl⟩ (fun hHeld => ?_)
           clear hK K
           refine norm_ (a' := ?_) ?_ ?_
           rotate_left
           ·
            show Act.put _ (some 33) _ = _
            simp only [Act.put, qSa, qS0, qS1, i64_w, i32_w]
            rfl
           refine one_ (i := 18) (N := some 34) #[true, true, true, true, true, true, true, true, true, true, true, true, true, true, true, true, true, true, true, false, false, false, false, false, false, false, false, false, false, false, false, false, false, false, false, false, false, false, false, false, false, false, false, false, false, false, false, false, false, false] rfl rfl (one_of HT_.out (by kernel_rfl)) (by decide) (fun K hK => ?_)
           refine goes_ Try.func9 (by kernel_rfl) rfl #[.agg #[.int .i64 t270, .string t271, .string t272, .int .i64 t273, .int .i64 t274], .agg #[.int .i64 t275, .string t276, .string t277, .int .i64 t278, .int .i64 t279]] (by rfl) rfl rfl (by (try simp only [qM0, qM1, qM2]); first | done | rfl | (simp only [qD0, qD1]; rfl)) ?_
           with_reducible refine (check_Clash.calls k t270 t271 t272 t273 t274 t275 t276 t277 t278 t279 true _ A44.out).mono ?_
           rintro e w96 ⟨rfl, hb⟩
           refine ⟨_, rfl, ?_⟩
           have n0_ := aK (Kd.R_below (by (with_reducible repeat (first | apply Kd.R_alloc | apply Kd.R_drewN | apply Kd.R_drew)); exact HO244.out) hb)
           have n1_ := aK (kBe (g := gb239) (o := .cells #[.int .i64 t234, .string t235, .string t236, .int .i64 t237, .int .i64 t238] 23 (0, 0)) (by (with_reducible repeat (first | refine kDN ?_ _ | refine kDr ?_ | refine kAl ?_ _)); exact BK239.out) hb)
           have n2_ := aK (bSp (by repeat (first | (with_reducible first | exact HB.out | apply bAl | apply pbD | apply bD1 | refine bSt ?_ GE239.out) | exact HB.out)) hb)
           clear HO244
           clear BK239
           clear HB
           have HO244 := n0_
           have BK239 := n1_
           have HB := n2_
           clear n0_ n1_ n2_
           (try clear hb)
           (try clear hb2)
           (try clear hk)
           (try clear hi)
           refine hK.out _ _ ⟨(kCe BK239.out 0).trans rfl, (kCe BK239.out 1).trans rfl, (kCe BK239.out 2).trans rfl, (kCe BK239.out 3).trans rfl, (kCe BK239.out 4).trans rfl⟩ (fun hHeld => ?_)
           clear hK K
           refine norm_ (a' := ?_) ?_ ?_
           rotate_left
           ·
            show Act.put _ (some 34) _ = _
            simp only [Act.put, qSa, qS0, qS1, i64_w, i32_w]
            rfl
           refine pure_ (i := 19) (N := some 35) (v := ?_) (a' := ?_) #[true, true, true, true, true, true, true, true, true, true, true, true, true, true, true, true, true, true, true, true, false, false, false, false, false, false, false, false, false, false, false, false, false, false, false, false, false, false, false, false, false, false, false, false, false, false, false, false, false, false] rfl rfl (any_of HT_.out (by kernel_rfl)) (fun _ _ _ h => h) (Or.inl ⟨by rfl, ?_⟩) ?_ ?_
           rotate_left
           ·
            intro w'
            go_simp
            with_reducible rfl
           rotate_left
           ·
            simp only [Act.put, qSa, qS0, qS1, i64_w, i32_w]
            rfl
           refine pure_ (i := 20) (N := some 36) (v := ?_) (a' := ?_) #[true, true, true, true, true, true, true, true, true, true, true, true, true, true, true, true, true, true, true, true, true, false, false, false, false, false, false, false, false, false, false, false, false, false, false, false, false, false, false, false, false, false, false, false, false, false, false, false, false, false] rfl rfl (any_of HT_.out (by kernel_rfl)) (fun _ _ _ h => h) (Or.inl ⟨by rfl, ?_⟩) ?_ ?_
           rotate_left
           ·
            intro w'
            go_simp
            with_reducible rfl
           rotate_left
           ·
            simp only [Act.put, qSa, qS0, qS1, i64_w, i32_w]
            rfl
           refine one_ (i := 21) (N := some 37) #[true, true, true, true, true, true, true, true, true, true, true, true, true, true, true, true, true, true, true, true, true, true, false, false, false, false, false, false, false, false, false, false, false, false, false, false, false, false, false, false, false, false, false, false, false, false, false, false, false, false] rfl rfl (one_of HT_.out (by kernel_rfl)) (by decide) (fun K hK => ?_)
           refine goes_ Try.func21 (by kernel_rfl) rfl #[.int .i64 8, .string (⟨#[105, 110, 100]⟩ : ByteArray), .string (⟨#[54]⟩ : ByteArray)] (by rfl) rfl rfl (by (try simp only [qM0, qM1, qM2]); first | done | rfl | (simp only [qD0, qD1]; rfl)) ?_
           with_reducible refine (w9_rule.calls 8 (⟨#[105, 110, 100]⟩ : ByteArray) (⟨#[54]⟩ : ByteArray) t281 t282 t283 t284 t285 _ A46.out).mono ?_
           rintro e w97 ⟨rfl, hb⟩
           refine ⟨_, rfl, ?_⟩
           have n0_ := aK (Kd.R_below (by (with_reducible repeat (first | apply Kd.R_alloc | apply Kd.R_drewN | apply Kd.R_drew)); exact HO244.out) hb)
           have n1_ := aK (kBe (g := gb239) (o := .cells #[.int .i64 t234, .string t235, .string t236, .int .i64 t237, .int .i64 t238] 23 (0, 0)) (by (with_reducible repeat (first | refine kDN ?_ _ | refine kDr ?_ | refine kAl ?_ _)); exact BK239.out) hb)
           have n2_ := aK (bSp (by repeat (first | (with_reducible first | exact HB.out | apply bAl | apply pbD | apply bD1 | refine bSt ?_ GE239.out) | exact HB.out)) hb)
           clear HO244
           clear BK239
           clear HB
           have HO244 := n0_
           have BK239 := n1_
           have HB := n2_
           clear n0_ n1_ n2_
           (try clear hb)
           (try clear hb2)
           (try clear hk)
           (try clear hi)
           refine hK.out _ _ ⟨(kCe BK239.out 0).trans rfl, (kCe BK239.out 1).trans rfl, (kCe BK239.out 2).trans rfl, (kCe BK239.out 3).trans rfl, (kCe BK239.out 4).trans rfl⟩ (fun hHeld => ?_)
           clear hK K
           refine norm_ (a' := ?_) ?_ ?_
           rotate_left
           ·
            show Act.put _ (some 37) _ = _
            simp only [Act.put, qSa, qS0, qS1, i64_w, i32_w]
            rfl
           refine one_ (i := 22) (N := some 38) #[true, true, true, true, true, true, true, true, true, true, true, true, true, true, true, true, true, true, true, true, true, true, true, false, false, false, false, false, false, false, false, false, false, false, false, false, false, false, false, false, false, false, false, false, false, false, false, false, false, false] rfl rfl (one_of HT_.out (by kernel_rfl)) (by decide) (fun K hK => ?_)
           refine goes_ Try.func11 (by kernel_rfl) rfl #[.agg #[.int .i64 t281, .string t282, .string t283, .int .i64 t284, .int .i64 t285]] (by rfl) rfl rfl (by (try simp only [qM0, qM1, qM2]); first | done | rfl | (simp only [qD0, qD1]; rfl)) ?_
           with_reducible refine (check_Alone.calls k t281 t282 t283 t284 t285 true _ A47.out).mono ?_
           rintro e w98 ⟨rfl, hb⟩
           refine ⟨_, rfl, ?_⟩
           have n0_ := aK (Kd.R_below (by (with_reducible repeat (first | apply Kd.R_alloc | apply Kd.R_drewN | apply Kd.R_drew)); exact HO244.out) hb)
           have n1_ := aK (kBe (g := gb239) (o := .cells #[.int .i64 t234, .string t235, .string t236, .int .i64 t237, .int .i64 t238] 23 (0, 0)) (by (with_reducible repeat (first | refine kDN ?_ _ | refine kDr ?_ | refine kAl ?_ _)); exact BK239.out) hb)
           have n2_ := aK (bSp (by repeat (first | (with_reducible first | exact HB.out | apply bAl | apply pbD | apply bD1 | refine bSt ?_ GE239.out) | exact HB.out)) hb)
           clear HO244
           clear BK239
           clear HB
           have HO244 := n0_
           have BK239 := n1_
           have HB := n2_
           clear n0_ n1_ n2_
           (try clear hb)
           (try clear hb2)
           (try clear hk)
           (try clear hi)
           refine hK.out _ _ ⟨(kCe BK239.out 0).trans rfl, (kCe BK239.out 1).trans rfl, (kCe BK239.out 2).trans rfl, (kCe BK239.out 3).trans rfl, (kCe BK239.out 4).trans rfl⟩ (fun hHeld => ?_)
           clear hK K
           refine norm_ (a' := ?_) ?_ ?_
           rotate_left
           ·
            show Act.put _ (some 38) _ = _
            simp only [Act.put, qSa, qS0, qS1, i64_w, i32_w]
            rfl
           refine pure_ (i := 23) (N := some 39) (v := ?_) (a' := ?_) #[true, true, true, true, true, true, true, true, true, true, true, true, true, true, true, true, true, true, true, true, true, true, true, true, false, false, false, false, false, false, false, false, false, false, false, false, false, false, false, false, false, false, false, false, false, false, false, false, false, false] rfl rfl (any_of HT_.out (by kernel_rfl)) (fun _ _ _ h => h) (Or.inl ⟨by rfl, ?_⟩) ?_ ?_
           rotate_left
           ·
            intro w'
            go_simp
            with_reducible rfl
           rotate_left
           ·
            simp only [Act.put, qSa, qS0, qS1, i64_w, i32_w]
            rfl
           refine pure_ (i := 24) (N := some 40) (v := ?_) (a' := ?_) #[true, true, true, true, true, true, true, true, true, true, true, true, true, true, true, true, true, true, true, true, true, true, true, true, true, false, false, false, false, false, false, false, false, false, false, false, false, false, false, false, false, false, false, false, false, false, false, false, false, false] rfl rfl (any_of HT_.out (by kernel_rfl)) (fun _ _ _ h => h) (Or.inl ⟨by rfl, ?_⟩) ?_ ?_
           rotate_left
           ·
            intro w'
            go_simp
            with_reducible rfl
           rotate_left
           ·
            simp only [Act.put, qSa, qS0, qS1, i64_w, i32_w]
            rfl
           refine one_ (i := 25) (N := some 41) #[true, true, true, true, true, true, true, true, true, true, true, true, true, true, true, true, true, true, true, true, true, true, true, true, true, true, false, false, false, false, false, false, false, false, false, false, false, false, false, false, false, false, false, false, false, false, false, false, false, false] rfl rfl (one_of HT_.out (by kernel_rfl)) (by decide) (fun K hK => ?_)
           refine goes_ Try.func21 (by kernel_rfl) rfl #[.int .i64 8, .string (⟨#[105, 110, 100]⟩ : ByteArray), .string (⟨#[54, 1]⟩ : ByteArray)] (by rfl) rfl rfl (by (try simp only [qM0, qM1, qM2]); first | done | rfl | (simp only [qD0, qD1]; rfl)) ?_
           with_reducible refine (w9_rule.calls 8 (⟨#[105, 110, 100]⟩ : ByteArray) (⟨#[54, 1]⟩ : ByteArray) t287 t288 t289 t290 t291 _ A49.out).mono ?_
           rintro e w99 ⟨rfl, hb⟩
           refine ⟨_, rfl, ?_⟩
           have n0_ := aK (Kd.R_below (by (with_reducible repeat (first | apply Kd.R_alloc | apply Kd.R_drewN | apply Kd.R_drew)); exact HO244.out) hb)
           have n1_ := aK (kBe (g := gb239) (o := .cells #[.int .i64 t234, .string t235, .string t236, .int .i64 t237, .int .i64 t238] 23 (0, 0)) (by (with_reducible repeat (first | refine kDN ?_ _ | refine kDr ?_ | refine kAl ?_ _)); exact BK239.out) hb)
           have n2_ := aK (bSp (by repeat (first | (with_reducible first | exact HB.out | apply bAl | apply pbD | apply bD1 | refine bSt ?_ GE239.out) | exact HB.out)) hb)
           clear HO244
           clear BK239
           clear HB
           have HO244 := n0_
           have BK239 := n1_
           have HB := n2_
           clear n0_ n1_ n2_
           (try clear hb)
           (try clear hb2)
           (try clear hk)
           (try clear hi)
           refine hK.out _ _ ⟨(kCe BK239.out 0).trans rfl, (kCe BK239.out 1).trans rfl, (kCe BK239.out 2).trans rfl, (kCe BK239.out 3).trans rfl, (kCe BK239.out 4).trans rfl⟩ (fun hHeld => ?_)
           clear hK K
           refine norm_ (a' := ?_) ?_ ?_
           rotate_left
           ·
            show Act.put _ (some 41) _ = _
            simp only [Act.put, qSa, qS0, qS1, i64_w, i32_w]
            rfl
           refine one_ (i := 26) (N := some 42) #[true, true, true, true, true, true, true, true, true, true, true, true, true, true, true, true, true, true, true, true, true, true, true, true, true, true, true, false, false, false, false, false, false, false, false, false, false, false, false, false, false, false, false, false, false, false, false, false, false, false] rfl rfl (one_of HT_.out (by kernel_rfl)) (by decide) (fun K hK => ?_)
           refine goes_ Try.func11 (by kernel_rfl) rfl #[.agg #[.int .i64 t287, .string t288, .string t289, .int .i64 t290, .int .i64 t291]] (by rfl) rfl rfl (by (try simp only [qM0, qM1, qM2]); first | done | rfl | (simp only [qD0, qD1]; rfl)) ?_
           with_reducible refine (check_Alone.calls k t287 t288 t289 t290 t291 false _ A50.out).mono ?_
           rintro e w100 ⟨rfl, hb⟩
           refine ⟨_, rfl, ?_⟩
           have n0_ := aK (Kd.R_below (by (with_reducible repeat (first | apply Kd.R_alloc | apply Kd.R_drewN | apply Kd.R_drew)); exact HO244.out) hb)
           have n1_ := aK (kBe (g := gb239) (o := .cells #[.int .i64 t234, .string t235, .string t236, .int .i64 t237, .int .i64 t238] 23 (0, 0)) (by (with_reducible repeat (first | refine kDN ?_ _ | refine kDr ?_ | refine kAl ?_ _)); exact BK239.out) hb)
           have n2_ := aK (bSp (by repeat (first | (with_reducible first | exact HB.out | apply bAl | apply pbD | apply bD1 | refine bSt ?_ GE239.out) | exact HB.out)) hb)
           clear HO244
           clear BK239
           clear HB
           have HO244 := n0_
           have BK239 := n1_
           have HB := n2_
           clear n0_ n1_ n2_
           (try clear hb)
           (try clear hb2)
           (try clear hk)
           (try clear hi)
           refine hK.out _ _ ⟨(kCe BK239.out 0).trans rfl, (kCe BK239.out 1).trans rfl, (kCe BK239.out 2).trans rfl, (kCe BK239.out 3).trans rfl, (kCe BK239.out 4).trans rfl⟩ (fun hHeld => ?_)
           clear hK K
           refine norm_ (a' := ?_) ?_ ?_
           rotate_left
           ·
            show Act.put _ (some 42) _ = _
            simp only [Act.put, qSa, qS0, qS1, i64_w, i32_w]
            rfl
           refine pure_ (i := 27) (N := some 43) (v := ?_) (a' := ?_) #[true, true, true, true, true, true, true, true, true, true, true, true, true, true, true, true, true, true, true, true, true, true, true, true, true, true, true, true, false, false, false, false, false, false, false, false, false, false, false, false, false, false, false, false, false, false, false, false, false, false] rfl rfl (any_of HT_.out (by kernel_rfl)) (fun _ _ _ h => h) (Or.inl ⟨by rfl, ?_⟩) ?_ ?_
           rotate_left
           ·
            intro w'
            go_simp
            with_reducible rfl
           rotate_left
           ·
            simp only [Act.put, qSa, qS0, qS1, i64_w, i32_w]
            rfl
           refine pure_ (i := 28) (N := some 44) (v := ?_) (a' := ?_) #[true, true, true, true, true, true, true, true, true, true, true, true, true, true, true, true, true, true, true, true, true, true, true, true, true, true, true, true, true, false, false, false, false, false, false, false, false, false, false, false, false, false, false, false, false, false, false, false, false, false] rfl rfl (any_of HT_.out (by kernel_rfl)) (fun _ _ _ h => h) (Or.inl ⟨by rfl, ?_⟩) ?_ ?_
           rotate_left
           ·
            intro w'
            go_simp
            with_reducible rfl
           rotate_left
           ·
            simp only [Act.put, qSa, qS0, qS1, i64_w, i32_w]
            rfl
           refine pure_ (i := 29) (N := some 45) (v := ?_) (a' := ?_) #[true, true, true, true, true, true, true, true, true, true, true, true, true, true, true, true, true, true, true, true, true, true, true, true, true, true, true, true, true, true, false, false, false, false, false, false, false, false, false, false, false, false, false, false, false, false, false, false, false, false] rfl rfl (any_of HT_.out (by kernel_rfl)) (fun _ _ _ h => h) (Or.inl ⟨by rfl, ?_⟩) ?_ ?_
           rotate_left
           ·
            intro w'
            go_simp
            with_reducible rfl
           rotate_left
           ·
            simp only [Act.put, qSa, qS0, qS1, i64_w, i32_w]
            rfl
           refine one_ (i := 30) (N := some 46) #[true, true, true, true, true, true, true, true, true, true, true, true, true, true, true, true, true, true, true, true, true, true, true, true, true, true, true, true, true, true, true, false, false, false, false, false, false, false, false, false, false, false, false, false, false, false, false, false, false, false] rfl rfl (one_of HT_.out (by kernel_rfl)) (by decide) (fun K hK => ?_)
           refine goes_ Try.func17 (by kernel_rfl) rfl #[.slice none 0 0] (by rfl) rfl rfl (by (try simp only [qM0, qM1, qM2]); first | done | rfl | (simp only [qD0, qD1]; rfl)) ?_
           refine (check_Missing.calls _ _ ([] : List (S23)) t293 _ ?side1 ?side2 A74.out).mono ?_
           (case side1 => exact Kd.C_nil _ _)
           (case side2 => exact Nat.le_refl _)
           rintro e w101 ⟨rfl, hb⟩
           refine ⟨_, rfl, ?_⟩
           have n0_ := aK (Kd.R_below (by (with_reducible repeat (first | apply Kd.R_alloc | apply Kd.R_drewN | apply Kd.R_drew)); exact HO244.out) hb)
           have n1_ := aK (kBe (g := gb239) (o := .cells #[.int .i64 t234, .string t235, .string t236, .int .i64 t237, .int .i64 t238] 23 (0, 0)) (by (with_reducible repeat (first | refine kDN ?_ _ | refine kDr ?_ | refine kAl ?_ _)); exact BK239.out) hb)
           have n2_ := aK (bSp (by repeat (first | (with_reducible first | exact HB.out | apply bAl | apply pbD | apply bD1 | refine bSt ?_ GE239.out) | exact HB.out)) hb)
           clear HO244
           clear BK239
           clear HB
           have HO244 := n0_
           have BK239 := n1_
           have HB := n2_
           clear n0_ n1_ n2_
           (try clear hb)
           (try clear hb2)
           (try clear hk)
           (try clear hi)
           refine hK.out _ _ ⟨(kCe BK239.out 0).trans rfl, (kCe BK239.out 1).trans rfl, (kCe BK239.out 2).trans rfl, (kCe BK239.out 3).trans rfl, (kCe BK239.out 4).trans rfl⟩ (fun hHeld => ?_)
           clear hK K
           refine norm_ (a' := ?_) ?_ ?_
           rotate_left
           ·
            show Act.put _ (some 46) _ = _
            simp only [Act.put, qSa, qS0, qS1, i64_w, i32_w]
            rfl
           refine pure_ (i := 31) (N := some 47) (v := ?_) (a' := ?_) #[true, true, true, true, true, true, true, true, true, true, true, true, true, true, true, true, true, true, true, true, true, true, true, true, true, true, true, true, true, true, true, true, false, false, false, false, false, false, false, false, false, false, false, false, false, false, false, false, false, false] rfl rfl (any_of HT_.out (by kernel_rfl)) (fun _ _ _ h => h) (Or.inl ⟨by rfl, ?_⟩) ?_ ?_
           rotate_left
           ·
            intro w'
            go_simp
            with_reducible rfl
           rotate_left
           ·
            simp only [Act.put, qSa, qS0, qS1, i64_w, i32_w]
            rfl
           refine pure_ (i := 32) (N := some 48) (v := ?_) (a' := ?_) #[true, true, true, true, true, true, true, true, true, true, true, true, true, true, true, true, true, true, true, true, true, true, true, true, true, true, true, true, true, true, true, true, true, false, false, false, false, false, false, false, false, false, false, false, false, false, false, false, false, false] rfl rfl (any_of HT_.out (by kernel_rfl)) (fun _ _ _ h => h) (Or.inl ⟨by rfl, ?_⟩) ?_ ?_
           rotate_left
           ·
            intro w'
            go_simp
            with_reducible rfl
           rotate_left
           ·
            simp only [Act.put, qSa, qS0, qS1, i64_w, i32_w]
            rfl
           refine pure_ (i := 33) (N := some 49) (v := ?_) (a' := ?_) #[true, true, true, true, true, true, true, true, true, true, true, true, true, true, true, true, true, true, true, true, true, true, true, true, true, true, true, true, true, true, true, true, true, true, false, false, false, false, false, false, false, false, false, false, false, false, false, false, false, false] rfl rfl (any_of HT_.out (by kernel_rfl)) (fun _ _ _ h => h) (Or.inl ⟨by rfl, ?_⟩) ?_ ?_
           rotate_left
           ·
            intro w'
            go_simp
            with_reducible rfl
           rotate_left
           ·
            simp only [Act.put, qSa, qS0, qS1, i64_w, i32_w]
            rfl
           refine pure_ (i := 34) (N := some 50) (v := ?_) (a' := ?_) #[true, true, true, true, true, true, true, true, true, true, true, true, true, true, true, true, true, true, true, true, true, true, true, true, true, true, true, true, true, true, true, true, true, true, true, false, false, false, false, false, false, false, false, false, false, false, false, false, false, false] rfl rfl (any_of HT_.out (by kernel_rfl)) (fun _ _ _ h => h) (Or.inl ⟨by rfl, ?_⟩) ?_ ?_
           rotate_left
           ·
            intro w'
            go_simp
            with_reducible rfl
           rotate_left
           ·
            simp only [Act.put, qSa, qS0, qS1, i64_w, i32_w]
            rfl
           refine pure_ (i := 35) (N := some 51) (v := ?_) (a' := ?_) #[true, true, true, true, true, true, true, true, true, true, true, true, true, true, true, true, true, true, true, true, true, true, true, true, true, true, true, true, true, true, true, true, true, true, true, true, false, false, false, false, false, false, false, false, false, false, false, false, false, false] rfl rfl (any_of HT_.out (by kernel_rfl)) (fun _ _ _ h => h) (Or.inl ⟨by rfl, ?_⟩) ?_ ?_
           rotate_left
           ·
            intro w'
            go_simp
            with_reducible rfl
           rotate_left
           ·
            simp only [Act.put, qSa, qS0, qS1, i64_w, i32_w]
            rfl
           refine pure_ (i := 36) (N := some 52) (v := ?_) (a' := ?_) #[true, true, true, true, true, true, true, true, true, true, true, true, true, true, true, true, true, true, true, true, true, true, true, true, true, true, true, true, true, true, true, true, true, true, true, true, true, false, false, false, false, false, false, false, false, false, false, false, false, false] rfl rfl (any_of HT_.out (by kernel_rfl)) (fun _ _ _ h => h) (Or.inl ⟨by rfl, ?_⟩) ?_ ?_
           rotate_left
           ·
            intro w'
            go_simp
            with_reducible rfl
           rotate_left
           ·
            simp only [Act.put, qSa, qS0, qS1, i64_w, i32_w]
            rfl
           refine pure_ (i := 37) (N := some 53) (v := ?_) (a' := ?_) #[true, true, true, true, true, true, true, true, true, true, true, true, true, true, true, true, true, true, true, true, true, true, true, true, true, true, true, true, true, true, true, true, true, true, true, true, true, true, false, false, false, false, false, false, false, false, false, false, false, false] rfl rfl (any_of HT_.out (by kernel_rfl)) (fun _ _ _ h => h) (Or.inl ⟨by rfl, ?_⟩) ?_ ?_
           rotate_left
           ·
            intro w'
            go_simp
            with_reducible rfl
           rotate_left
           ·
            simp only [Act.put, qSa, qS0, qS1, i64_w, i32_w]
            rfl
           refine pure_ (i := 38) (N := some 54) (v := ?_) (a' := ?_) #[true, true, true, true, true, true, true, true, true, true, true, true, true, true, true, true, true, true, true, true, true, true, true, true, true, true, true, true, true, true, true, true, true, true, true, true, true, true, true, false, false, false, false, false, false, false, false, false, false, false] rfl rfl (any_of HT_.out (by kernel_rfl)) (fun _ _ _ h => h) (Or.inl ⟨by rfl, ?_⟩) ?_ ?_
           rotate_left
           ·
            intro w'
            go_simp
            with_reducible rfl
           rotate_left
           ·
            simp only [Act.put, qSa, qS0, qS1, i64_w, i32_w]
            rfl
           refine pure_ (i := 39) (N := some 55) (v := ?_) (a' := ?_) #[true, true, true, true, true, true, true, true, true, true, true, true, true, true, true, true, true, true, true, true, true, true, true, true, true, true, true, true, true, true, true, true, true, true, true, true, true, true, true, true, false, false, false, false, false, false, false, false, false, false] rfl rfl (any_of HT_.out (by kernel_rfl)) (fun _ _ _ h => h) (Or.inl ⟨by rfl, ?_⟩) ?_ ?_
           rotate_left
           ·
            intro w'
            go_simp
            with_reducible rfl
           rotate_left
           ·
            simp only [Act.put, qSa, qS0, qS1, i64_w, i32_w]
            rfl
           refine pure_ (i := 40) (N := some 56) (v := ?_) (a' := ?_) #[true, true, true, true, true, true, true, true, true, true, true, true, true, true, true, true, true, true, true, true, true, true, true, true, true, true, true, true, true, true, true, true, true, true, true, true, true, true, true, true, true, false, false, false, false, false, false, false, false, false] rfl rfl (any_of HT_.out (by kernel_rfl)) (fun _ _ _ h => h) (Or.inl ⟨by rfl, ?_⟩) ?_ ?_
           rotate_left
           ·
            intro w'
            go_simp
            with_reducible rfl
           rotate_left
           ·
            simp only [Act.put, qSa, qS0, qS1, i64_w, i32_w]
            rfl
           refine pure_ (i := 41) (N := some 57) (v := ?_) (a' := ?_) #[true, true, true, true, true, true, true, true, true, true, true, true, true, true, true, true, true, true, true, true, true, true, true, true, true, true, true, true, true, true, true, true, true, true, true, true, true, true, true, true, true, true, false, false, false, false, false, false, false, false] rfl rfl (any_of HT_.out (by kernel_rfl)) (fun _ _ _ h => h) (Or.inl ⟨by rfl, ?_⟩) ?_ ?_
           rotate_left
           ·
            intro w'
            go_simp
            with_reducible rfl
           rotate_left
           ·
            simp only [Act.put, qSa, qS0, qS1, i64_w, i32_w]
            rfl
           refine pure_ (i := 42) (N := some 58) (v := ?_) (a' := ?_) #[true, true, true, true, true, true, true, true, true, true, true, true, true, true, true, true, true, true, true, true, true, true, true, true, true, true, true, true, true, true, true, true, true, true, true, true, true, true, true, true, true, true, true, false, false, false, false, false, false, false] rfl rfl (any_of HT_.out (by kernel_rfl)) (fun _ _ _ h => h) (Or.inl ⟨by rfl, ?_⟩) ?_ ?_
           rotate_left
           ·
            intro w'
            go_simp
            with_reducible rfl
           rotate_left
           ·
            simp only [Act.put, qSa, qS0, qS1, i64_w, i32_w]
            rfl
           refine pure_ (i := 43) (N := some 59) (v := ?_) (a' := ?_) #[true, true, true, true, true, true, true, true, true, true, true, true, true, true, true, true, true, true, true, true, true, true, true, true, true, true, true, true, true, true, true, true, true, true, true, true, true, true, true, true, true, true, true, true, false, false, false, false, false, false] rfl rfl (any_of HT_.out (by kernel_rfl)) (fun _ _ _ h => h) (Or.inl ⟨by rfl, ?_⟩) ?_ ?_
           rotate_left
           ·
            intro w'
            go_simp
            with_reducible rfl
           rotate_left
           ·
            simp only [Act.put, qSa, qS0, qS1, i64_w, i32_w]
            rfl
           refine pure_ (i := 44) (N := some 60) (v := ?_) (a' := ?_) #[true, true, true, true, true, true, true, true, true, true, true, true, true, true, true, true, true, true, true, true, true, true, true, true, true, true, true, true, true, true, true, true, true, true, true, true, true, true, true, true, true, true, true, true, true, false, false, false, false, false] rfl rfl (any_of HT_.out (by kernel_rfl)) (fun _ _ _ h => h) (Or.inl ⟨by rfl, ?_⟩) ?_ ?_
           rotate_left
           ·
            intro w'
            go_simp
            with_reducible rfl
           rotate_left
           ·
            simp only [Act.put, qSa, qS0, qS1, i64_w, i32_w]
            rfl
           refine pure_ (i := 45) (N := some 61) (v := ?_) (a' := ?_) #[true, true, true, true, true, true, true, true, true, true, true, true, true, true, true, true, true, true, true, true, true, true, true, true, true, true, true, true, true, true, true, true, true, true, true, true, true, true, true, true, true, true, true, true, true, true, false, false, false, false] rfl rfl (any_of HT_.out (by kernel_rfl)) (fun _ _ _ h => h) (Or.inl ⟨by rfl, ?_⟩) ?_ ?_
           rotate_left
           ·
            intro w'
            go_simp
            with_reducible rfl
           rotate_left
           ·
            simp only [Act.put, qSa, qS0, qS1, i64_w, i32_w]
            rfl
           refine pure_ (i := 46) (N := some 62) (v := ?_) (a' := ?_) #[true, true, true, true, true, true, true, true, true, true, true, true, true, true, true, true, true, true, true, true, true, true, true, true, true, true, true, true, true, true, true, true, true, true, true, true, true, true, true, true, true, true, true, true, true, true, true, false, false, false] rfl rfl (any_of HT_.out (by kernel_rfl)) (fun _ _ _ h => h) (Or.inl ⟨by rfl, ?_⟩) ?_ ?_
           rotate_left
           ·
            intro w'
            go_simp
            with_reducible rfl
           rotate_left
           ·
            simp only [Act.put, qSa, qS0, qS1, i64_w, i32_w]
            rfl
           refine pure_ (i := 47) (N := some 63) (v := ?_) (a' := ?_) #[true, true, true, true, true, true, true, true, true, true, true, true, true, true, true, true, true, true, true, true, true, true, true, true, true, true, true, true, true, true, true, true, true, true, true, true, true, true, true, true, true, true, true, true, true, true, true, true, false, false] rfl rfl (any_of HT_.out (by kernel_rfl)) (fun _ _ _ h => h) (Or.inl ⟨by rfl, ?_⟩) ?_ ?_
           rotate_left
           ·
            intro w'
            go_simp
            with_reducible rfl
           rotate_left
           ·
            simp only [Act.put, qSa, qS0, qS1, i64_w, i32_w]
            rfl
           refine pure_ (i := 48) (N := some 64) (v := ?_) (a' := ?_) #[true, true, true, true, true, true, true, true, true, true, true, true, true, true, true, true, true, true, true, true, true, true, true, true, true, true, true, true, true, true, true, true, true, true, true, true, true, true, true, true, true, true, true, true, true, true, true, true, true, false] rfl rfl (any_of HT_.out (by kernel_rfl)) (fun _ _ _ h => h) (Or.inl ⟨by rfl, ?_⟩) ?_ ?_
           rotate_left
           ·
            intro w'
            go_simp
            with_reducible rfl
           rotate_left
           ·
            simp only [Act.put, qSa, qS0, qS1, i64_w, i32_w]
            rfl
           refine pure_ (i := 49) (N := some 0) (v := ?_) (a' := ?_) #[true, true, true, true, true, true, true, true, true, true, true, true, true, true, true, true, true, true, true, true, true, true, true, true, true, true, true, true, true, true, true, true, true, true, true, true, true, true, true, true, true, true, true, true, true, true, true, true, true, true] rfl rfl (any_of HT_.out (by kernel_rfl)) (fun _ _ _ h => h) (Or.inl ⟨by rfl, ?_⟩) ?_ ?_
           rotate_left
           ·
            intro w'
            go_simp
            with_reducible rfl
           rotate_left
           ·
            simp only [Act.put, qSa, qS0, qS1, i64_w, i32_w]
            rfl
           refine done_ (done_of HT_.out (by kernel_rfl)) ?_
           try go_wp2
           go_ret
           exact ⟨by first | rfl | (simp [eWn, eWs] <;> rfl) | (simp [*, eWn, eWs] <;> rfl), by repeat (first | (with_reducible first | exact HB.out | apply bAl | apply pbD | apply bD1 | refine bSt ?_ GE239.out) | exact HB.out)⟩
          ·
           rw [if_neg c78] at H
           have c78b0 : (t245 == 0) = false := beq_eq_false_iff_ne.mpr c78
           have c78b1 : (t245 != 0) = true := bne_iff_ne.mpr c78
           exact absurd ((oI H).trans hr0.out) (by decide)
         ·
          rw [if_neg c77] at H
          have c77b0 : (t241 == 6) = false := beq_eq_false_iff_ne.mpr c77
          have c77b1 : (t241 != 6) = true := bne_iff_ne.mpr c77
          exact absurd ((oI H).trans hr0.out) (by decide)
        ·
         rw [if_neg c76] at H
         have c76b0 : (t240 == 0) = false := beq_eq_false_iff_ne.mpr c76
         have c76b1 : (t240 != 0) = true := bne_iff_ne.mpr c76
         exact absurd ((oI H).trans hr0.out) (by decide)
       ·
        rw [if_neg c75] at H
        have c75b0 : (t293.toList == ([97] : List UInt8)) = false := beq_eq_false_iff_ne.mpr c75
        have c75b1 : (t293.toList != ([97] : List UInt8)) = true := bne_iff_ne.mpr c75
        exact absurd ((oI H).trans hr0.out) (by decide)
     ·
      replace c48 := Bool.eq_false_iff.mpr c48
      subst c48
      have H1 : (some false) = some r := by rw [if_neg (show ¬ (false = true) by decide)] at H; exact H
      clear H
      have H := H1
      clear H1
      exact absurd ((oI H).trans hr0.out) (by decide)
    ·
     replace c45 := Bool.eq_false_iff.mpr c45
     subst c45
     have H1 : (some false) = some r := by rw [if_neg (show ¬ (false = true) by decide)] at H; exact H
     clear H
     have H := H1
     clear H1
     exact absurd ((oI H).trans hr0.out) (by decide)
 ·
  replace c7 := Bool.eq_false_iff.mpr c7
  subst c7
  have H1 : (some false) = some r := by rw [if_neg (show ¬ (false = true) by decide)] at H; exact H
  clear H
  have H := H1
  clear H1
  exact absurd ((oI H).trans hr0.out) (by decide)
end Go.Proofs.Ytgjkjoocnkdckaa.PChk
