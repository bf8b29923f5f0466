-- Written by a program of this session (prt.py), out of the translation. Lean checks it.
import Derived.Test.YtgjkjoocnkdckaaGreatDoorZGRulUn
import Derived.Test.YtgjkjoocnkdckaaGreatDoorZPChk0
import Derived.Test.YtgjkjoocnkdckaaGreatDoorZPChk3
import Derived.Test.YtgjkjoocnkdckaaGreatDoorZPChk4
import Derived.Test.YtgjkjoocnkdckaaGreatDoorZPChk12
namespace Go.Proofs.YtgjkjoocnkdckaaGreatDoor.PChk
open Go.RowKit Go.Proofs.YtgjkjoocnkdckaaGreatDoor.G Go.Proofs.YtgjkjoocnkdckaaGreatDoorW.PrintWords Go.Proofs.YtgjkjoocnkdckaaGreatDoorW.PrintLast Go.Proofs.YtgjkjoocnkdckaaGreatDoorW.PrintMore
attribute [local go_sem] max2_int min2_int max_two min_two max_three min_three max_four min_four   -- for this text's walks alone
set_option linter.unusedVariables false
set_option linter.unusedSimpArgs false
abbrev z13_0 : Array Bool := #[false, false, false, false, false, false, false, false, false, false, false, false, false, false, false, false, false, false, false, false, false, false, false, false, false, false, false, false, false, false, false, false]
abbrev z13_1 : Array Bool := #[true, false, false, false, false, false, false, false, false, false, false, false, false, false, false, false, false, false, false, false, false, false, false, false, false, false, false, false, false, false, false, false]
abbrev z13_2 : Array Bool := #[true, true, false, false, false, false, false, false, false, false, false, false, false, false, false, false, false, false, false, false, false, false, false, false, false, false, false, false, false, false, false, false]
abbrev z13_3 : Array Bool := #[true, true, true, false, false, false, false, false, false, false, false, false, false, false, false, false, false, false, false, false, false, false, false, false, false, false, false, false, false, false, false, false]
abbrev z13_4 : Array Bool := #[true, true, true, true, false, false, false, false, false, false, false, false, false, false, false, false, false, false, false, false, false, false, false, false, false, false, false, false, false, false, false, false]
abbrev z13_5 : Array Bool := #[true, true, true, true, true, false, false, false, false, false, false, false, false, false, false, false, false, false, false, false, false, false, false, false, false, false, false, false, false, false, false, false]
abbrev z13_6 : Array Bool := #[true, true, true, true, true, true, false, false, false, false, false, false, false, false, false, false, false, false, false, false, false, false, false, false, false, false, false, false, false, false, false, false]
abbrev z13_7 : Array Bool := #[true, true, true, true, true, true, true, false, false, false, false, false, false, false, false, false, false, false, false, false, false, false, false, false, false, false, false, false, false, false, false, false]
abbrev z13_8 : Array Bool := #[true, true, true, true, true, true, true, true, false, false, false, false, false, false, false, false, false, false, false, false, false, false, false, false, false, false, false, false, false, false, false, false]
abbrev z13_9 : Array Bool := #[true, true, true, true, true, true, true, true, true, false, false, false, false, false, false, false, false, false, false, false, false, false, false, false, false, false, false, false, false, false, false, false]
abbrev z13_10 : Array Bool := #[true, true, true, true, true, true, true, true, true, true, false, false, false, false, false, false, false, false, false, false, false, false, false, false, false, false, false, false, false, false, false, false]
abbrev z13_11 : Array Bool := #[true, true, true, true, true, true, true, true, true, true, true, false, false, false, false, false, false, false, false, false, false, false, false, false, false, false, false, false, false, false, false, false]
abbrev z13_12 : Array Bool := #[true, true, true, true, true, true, true, true, true, true, true, true, false, false, false, false, false, false, false, false, false, false, false, false, false, false, false, false, false, false, false, false]
abbrev z13_13 : Array Bool := #[true, true, true, true, true, true, true, true, true, true, true, true, true, false, false, false, false, false, false, false, false, false, false, false, false, false, false, false, false, false, false, false]
abbrev z13_14 : Array Bool := #[true, true, true, true, true, true, true, true, true, true, true, true, true, true, false, false, false, false, false, false, false, false, false, false, false, false, false, false, false, false, false, false]
abbrev z13_15 : Array Bool := #[true, true, true, true, true, true, true, true, true, true, true, true, true, true, true, false, false, false, false, false, false, false, false, false, false, false, false, false, false, false, false, false]
abbrev z13_16 : Array Bool := #[true, true, true, true, true, true, true, true, true, true, true, true, true, true, true, true, false, false, false, false, false, false, false, false, false, false, false, false, false, false, false, false]
abbrev z13_17 : Array Bool := #[true, true, true, true, true, true, true, true, true, true, true, true, true, true, true, true, true, false, false, false, false, false, false, false, false, false, false, false, false, false, false, false]
abbrev z13_18 : Array Bool := #[true, true, true, true, true, true, true, true, true, true, true, true, true, true, true, true, true, true, false, false, false, false, false, false, false, false, false, false, false, false, false, false]
abbrev z13_19 : Array Bool := #[true, true, true, true, true, true, true, true, true, true, true, true, true, true, true, true, true, true, true, false, false, false, false, false, false, false, false, false, false, false, false, false]
abbrev z13_20 : Array Bool := #[true, true, true, true, true, true, true, true, true, true, true, true, true, true, true, true, true, true, true, true, false, false, false, false, false, false, false, false, false, false, false, false]
abbrev z13_21 : Array Bool := #[true, true, true, true, true, true, true, true, true, true, true, true, true, true, true, true, true, true, true, true, true, false, false, false, false, false, false, false, false, false, false, false]
abbrev z13_22 : Array Bool := #[true, true, true, true, true, true, true, true, true, true, true, true, true, true, true, true, true, true, true, true, true, true, false, false, false, false, false, false, false, false, false, false]
abbrev z13_23 : Array Bool := #[true, true, true, true, true, true, true, true, true, true, true, true, true, true, true, true, true, true, true, true, true, true, true, false, false, false, false, false, false, false, false, false]
abbrev z13_24 : Array Bool := #[true, true, true, true, true, true, true, true, true, true, true, true, true, true, true, true, true, true, true, true, true, true, true, true, true, true, true, true, false, false, false, false]
abbrev z13_25 : Array Bool := #[true, true, true, true, true, true, true, true, true, true, true, true, true, true, true, true, true, true, true, true, true, true, true, true, true, true, true, true, true, false, false, false]
abbrev z13_26 : Array Bool := #[true, true, true, true, true, true, true, true, true, true, true, true, true, true, true, true, true, true, true, true, true, true, true, true, true, true, true, true, true, true, false, false]
abbrev z13_27 : Array Bool := #[true, true, true, true, true, true, true, true, true, true, true, true, true, true, true, true, true, true, true, true, true, true, true, true, true, true, true, true, true, true, true, false]
abbrev z13_28 : Array Bool := #[true, true, true, true, true, true, true, true, true, true, true, true, true, true, true, true, true, true, true, true, true, true, true, true, true, true, true, true, true, true, true, true]
mutual
def w8_RulesBack.j0 : Nat → List (S47) → ByteArray → Bool → Option (Bool)
 | 0, _, _, _ => none
 | k + 1, x0, x1, x25 => if x25 = true then ((w8_awake.f k).bind fun t279 => (some t279)) else ((rules_Print.f x0).bind fun bt280 => (if bt280.2 = 0 then ((rules_Parse.f bt280.1).bind fun bt282 => (if bt282.2.2 = 4 then (if (bt280.1.size : Int) > 65536 then ((w8_awake.f k).bind fun t287 => (some t287)) else (some false)) else (if bt282.2.2 = 0 then (if bt282.2.1 = 0 then ((r8_Unlined.f x0).bind fun t288 => ((r8_Same.f k bt282.1 t288).bind fun t291 => (if t291 = true then (w8_RulesBack.j1 k x1) else (some false)))) else (some false)) else (some false)))) else (w8_RulesBack.j1 k x1)))
def w8_RulesBack.j1 : Nat → ByteArray → Option (Bool)
 | 0, _ => none
 | k + 1, x1 => (rules_Parse.f x1).bind fun bt292 => (if bt292.2.2 = 0 then (w8_RulesBack.l0 k bt292.1 0) else (if (bt292.1.length : Int) = 0 then (if bt292.2.1 ≥ 0 then ((w8_awake.f k).bind fun t297 => (some t297)) else (some false)) else (some false)))
def w8_RulesBack.l0 : Nat → List (S47) → Int → Option (Bool)
 | 0, _, _ => none
 | k + 1, x10, x13 => if x13 < (x10.length : Int) then (if 0 ≤ x13 then ((rules_May.f k ((rd_T47 x10 x13).f0) ((rd_T47 x10 x13).f1) ((rd_T47 x10 x13).f2) ((rd_T47 x10 x13).f3) ((rd_T47 x10 x13).f4)).bind fun t299 => (if t299 = true then (if ((rd_T47 x10 x13).f4) < 1 then (some false) else (if x13 > 0 then (if 0 ≤ (wrap64 (x13 - 1)) then (if (wrap64 (x13 - 1)) < (x10.length : Int) then (if ((rd_T47 x10 (wrap64 (x13 - 1))).f4) ≥ ((rd_T47 x10 x13).f4) then (some false) else (w8_RulesBack.l0 k x10 (wrap64 (x13 + 1)))) else (none)) else (none)) else (w8_RulesBack.l0 k x10 (wrap64 (x13 + 1))))) else (some false))) else (none)) else ((rules_Print.f x10).bind fun bt303 => ((rules_Parse.f bt303.1).bind fun bt305 => (if bt303.2 = 0 then (if bt305.2.2 = 0 then ((r8_Unlined.f x10).bind fun t310 => ((r8_Same.f k bt305.1 t310).bind fun t313 => (if t313 = true then ((w8_awake.f k).bind fun t314 => (some t314)) else (some false)))) else (some false)) else (some false))))
end
def w8_RulesBack.f (k : Nat) (l0 : List (S47)) (a1 : ByteArray) : Option (Bool) := (w8_long.f k l0).bind fun t278 => (if t278 = true then (w8_RulesBack.j0 k l0 a1 true) else (w8_RulesBack.j0 k l0 a1 (decide ((a1.size : Int) > 5000))))
theorem w8_RulesBack.mono_l : ∀ k, (∀ y0 y1 y2, LeO (w8_RulesBack.j0 k y0 y1 y2) (w8_RulesBack.j0 (k + 1) y0 y1 y2)) ∧ (∀ y0, LeO (w8_RulesBack.j1 k y0) (w8_RulesBack.j1 (k + 1) y0)) ∧ (∀ y0 y1, LeO (w8_RulesBack.l0 k y0 y1) (w8_RulesBack.l0 (k + 1) y0 y1))
 | 0 => ⟨fun _ _ _ r h => by simp [w8_RulesBack.j0] at h, fun _ r h => by simp [w8_RulesBack.j1] at h, fun _ _ r h => by simp [w8_RulesBack.l0] at h⟩
 | k + 1 => by
  obtain ⟨ih0, ih1, ih2⟩ := w8_RulesBack.mono_l k
  refine ⟨?_, ?_, ?_⟩
  ·
   intro y0 y1 y2
   unfold w8_RulesBack.j0
   repeat' first
   | (with_reducible exact ih0 _ _ _)
   | (with_reducible exact ih1 _)
   | (with_reducible exact ih2 _ _)
   | (with_reducible exact rules_May.mono _ _ _ _ _ _)
   | (with_reducible exact w8_awake.mono _)
   | (with_reducible exact w8_long.mono _ _)
   | (with_reducible exact r8_Same.mono _ _ _)
   | (with_reducible exact LeO.refl _)
   | (with_reducible exact LeO.none _)
   | (with_reducible refine LeO.ite ?_ ?_)
   | (with_reducible refine LeO.bind ?_ (fun _ => ?_))
   | exact ih0 _ _ _
   | exact ih1 _
   | exact ih2 _ _
   | exact rules_May.mono _ _ _ _ _ _
   | exact w8_awake.mono _
   | exact w8_long.mono _ _
   | exact r8_Same.mono _ _ _
   | exact LeO.none _
   | refine LeO.ite ?_ ?_
   | refine LeO.bind ?_ (fun _ => ?_)
  ·
   intro y0
   unfold w8_RulesBack.j1
   repeat' first
   | (with_reducible exact ih0 _ _ _)
   | (with_reducible exact ih1 _)
   | (with_reducible exact ih2 _ _)
   | (with_reducible exact rules_May.mono _ _ _ _ _ _)
   | (with_reducible exact w8_awake.mono _)
   | (with_reducible exact w8_long.mono _ _)
   | (with_reducible exact r8_Same.mono _ _ _)
   | (with_reducible exact LeO.refl _)
   | (with_reducible exact LeO.none _)
   | (with_reducible refine LeO.ite ?_ ?_)
   | (with_reducible refine LeO.bind ?_ (fun _ => ?_))
   | exact ih0 _ _ _
   | exact ih1 _
   | exact ih2 _ _
   | exact rules_May.mono _ _ _ _ _ _
   | exact w8_awake.mono _
   | exact w8_long.mono _ _
   | exact r8_Same.mono _ _ _
   | exact LeO.none _
   | refine LeO.ite ?_ ?_
   | refine LeO.bind ?_ (fun _ => ?_)
  ·
   intro y0 y1
   unfold w8_RulesBack.l0
   repeat' first
   | (with_reducible exact ih0 _ _ _)
   | (with_reducible exact ih1 _)
   | (with_reducible exact ih2 _ _)
   | (with_reducible exact rules_May.mono _ _ _ _ _ _)
   | (with_reducible exact w8_awake.mono _)
   | (with_reducible exact w8_long.mono _ _)
   | (with_reducible exact r8_Same.mono _ _ _)
   | (with_reducible exact LeO.refl _)
   | (with_reducible exact LeO.none _)
   | (with_reducible refine LeO.ite ?_ ?_)
   | (with_reducible refine LeO.bind ?_ (fun _ => ?_))
   | exact ih0 _ _ _
   | exact ih1 _
   | exact ih2 _ _
   | exact rules_May.mono _ _ _ _ _ _
   | exact w8_awake.mono _
   | exact w8_long.mono _ _
   | exact r8_Same.mono _ _ _
   | exact LeO.none _
   | refine LeO.ite ?_ ?_
   | refine LeO.bind ?_ (fun _ => ?_)
theorem w8_RulesBack.mono : ∀ a0 a1 k, LeO (w8_RulesBack.f k a0 a1) (w8_RulesBack.f (k + 1) a0 a1) := by
 intro a0 a1 k
 obtain ⟨ih0, ih1, ih2⟩ := w8_RulesBack.mono_l k
 unfold w8_RulesBack.f
 repeat' first
   | (with_reducible exact ih0 _ _ _)
   | (with_reducible exact ih1 _)
   | (with_reducible exact ih2 _ _)
   | (with_reducible exact rules_May.mono _ _ _ _ _ _)
   | (with_reducible exact w8_awake.mono _)
   | (with_reducible exact w8_long.mono _ _)
   | (with_reducible exact r8_Same.mono _ _ _)
   | (with_reducible exact LeO.refl _)
   | (with_reducible exact LeO.none _)
   | (with_reducible refine LeO.ite ?_ ?_)
   | (with_reducible refine LeO.bind ?_ (fun _ => ?_))
   | exact ih0 _ _ _
   | exact ih1 _
   | exact ih2 _ _
   | exact rules_May.mono _ _ _ _ _ _
   | exact w8_awake.mono _
   | exact w8_long.mono _ _
   | exact r8_Same.mono _ _ _
   | exact LeO.none _
   | refine LeO.ite ?_ ?_
   | refine LeO.bind ?_ (fun _ => ?_)
def w8_RulesBack.T16 : Bool × List (List Nat × List Nat) := (true, [([], []), ([], []), ([0, 1], [0, 1]), ([2], [2]), ([3], [3]), ([4], [4]), ([5, 4], [5]), ([6], [6]), ([6], [6]), ([7, 8, 6], [6, 7, 8]), ([9, 6], [6, 9]), ([10, 6], [6, 10]), ([11, 6], [6, 11]), ([6, 12], [6, 12]), ([13, 6], [13]), ([14], [14]), ([15, 14], [14, 15]), ([16, 14, 14], [14, 16]), ([17], [17]), ([17], [17]), ([19, 17], [17, 19]), ([18, 20, 17], [17, 18, 20]), ([21, 17], [17, 21]), ([22, 17], [17, 22]), ([17], [17]), ([17], [17]), ([24, 25, 17], [17, 24, 25]), ([26, 17], [17, 26]), ([27, 17], [17, 27]), ([23, 28, 17], [17, 23, 28]), ([17, 29, 14], [14, 17, 29]), ([14, 30], [14, 30])])
def w8_RulesBack.B16 : List Nat := [0, 0, 3, 7, 15, 31, 63, 127, 127, 511, 1023, 2047, 4095, 8191, 16383, 32767, 65535, 131071, 262143, 262143, 786431, 2097151, 4194303, 8388607, 262143, 262143, 50593791, 117702655, 251920383, 536870911, 1073741823, 2147483647]
theorem w8_RulesBack.tab16 : rtab .any (opsOf Tryz.f5 16) = w8_RulesBack.T16 := by kernel_rfl
theorem w8_RulesBack.bits16 : waitsOk w8_RulesBack.T16.2 w8_RulesBack.B16 = true := by kernel_rfl
set_option maxHeartbeats 8000000 in
set_option maxRecDepth 100000 in
theorem w8_RulesBack.calls (k : Nat) (A0 : Option Addr) (c0 : Nat) (l0 : List (S47)) (a1 : ByteArray) (r : Bool) (w : World) (hr0 : Kd.C k47 w A0 l0.length l0) (hc0 : l0.length ≤ c0) (h : w8_RulesBack.f k l0 a1 = some r) (hT0 : r = true) :
  Calls Tryz.prog 5 #[.slice A0 l0.length c0, .string a1] w fun e w' => e = .returned (.bool r) ∧ Below w.heap.size w w' := by
 have hu47 := Tryz.underlying47
 have HR0 := aK hr0
 have HC0 := aK hc0
 clear hr0 hc0
 have HB := aK (Below.refl w.heap.size w)
 have H : ((w8_long.f k l0).bind fun t278 => (if t278 = true then (w8_RulesBack.j0 k l0 a1 true) else (w8_RulesBack.j0 k l0 a1 (decide ((a1.size : Int) > 5000))))) = some r := h
 clear h
 have hT := aK hT0
 clear hT0
 have HC3 := aK H
 clear H
 go_enter Tryz.func5, Tryz.ntmps5
 go_upto_region 1 with (fail)
 go_cut [25] (fun v25 wc => ∃ (kq : Nat) (x25_2 : Bool), v25 = .bool x25_2 ∧ Aside0 (w8_RulesBack.j0 kq l0 a1 x25_2 = some r) ∧ Aside0 (kq ≤ k) ∧ Aside0 (Below w.heap.size w wc))
 case first =>
  have H := HC3.out
  clear HC3
  replace H := oB H
  obtain ⟨t278, A40, H⟩ := H
  try dsimp only at H
  have A4 := aK A40
  clear A40
  by_cases c5 : t278 = true
  ·
   subst c5
   have H1 : (w8_RulesBack.j0 k l0 a1 true) = some r := by rw [if_pos rfl] at H; exact H
   clear H
   have H := H1
   clear H1
   have H' := aK H
   clear H
   go_wp2_with (first | ((with_reducible refine gate_callee (f := 17) rfl ?_); refine goesL_ (some 20) rfl rfl Tryz.func17 (by kernel_rfl) rfl #[.slice A0 l0.length c0] rfl (by (try simp only [qM0, qM1, qM2]); first | done | rfl | (simp only [qD0, qD1]; rfl)) ?_; (with_reducible refine (w8_long.calls k _ _ l0 true _ ?side1 ?side2 A4.out).mono ?_); (case side1 => repeat (first | exact (Kd.C_below HR0.out HB.out) | (with_reducible refine Kd.C_alloc ?_ _) | (with_reducible refine Kd.C_drewN ?_ _) | (with_reducible refine Kd.C_drew ?_))); (case side2 => exact HC0.out); rintro e w' ⟨rfl, ⟨nd, rfl⟩⟩; refine ⟨_, rfl, ?_⟩))
   go_meet
   case rel => exact ⟨_, (true), (by first | rfl | (simp; done) | (simp [*]; done)), H', ⟨by first | omega | exact Nat.le_refl _⟩, ⟨by repeat (first | (with_reducible first | exact HB.out | apply bAl | apply pbD | apply bD1) | exact HB.out)⟩⟩
  ·
   replace c5 := Bool.eq_false_iff.mpr c5
   subst c5
   have H1 : (w8_RulesBack.j0 k l0 a1 (decide ((a1.size : Int) > 5000))) = some r := by rw [if_neg (show ¬ (false = true) by decide)] at H; exact H
   clear H
   have H := H1
   clear H1
   have H' := aK H
   clear H
   go_wp2_with (first | ((with_reducible refine gate_callee (f := 17) rfl ?_); refine goesL_ (some 20) rfl rfl Tryz.func17 (by kernel_rfl) rfl #[.slice A0 l0.length c0] rfl (by (try simp only [qM0, qM1, qM2]); first | done | rfl | (simp only [qD0, qD1]; rfl)) ?_; (with_reducible refine (w8_long.calls k _ _ l0 false _ ?side1 ?side2 A4.out).mono ?_); (case side1 => repeat (first | exact (Kd.C_below HR0.out HB.out) | (with_reducible refine Kd.C_alloc ?_ _) | (with_reducible refine Kd.C_drewN ?_ _) | (with_reducible refine Kd.C_drew ?_))); (case side2 => exact HC0.out); rintro e w' ⟨rfl, ⟨nd, rfl⟩⟩; refine ⟨_, rfl, ?_⟩))
   go_meet
   case rel => exact ⟨_, (decide ((a1.size : Int) > 5000)), (by first | rfl | (simp; done) | (simp [*]; done)), H', ⟨by first | omega | exact Nat.le_refl _⟩, ⟨by repeat (first | (with_reducible first | exact HB.out | apply bAl | apply pbD | apply bD1) | exact HB.out)⟩⟩
 case rest =>
  clear HC3
  try clear c1
  try clear p2
  try clear c5
  obtain ⟨kq, x25_2, rfl, HA, HJ2, HB⟩ := hcut
  cases kq with
  | zero => exact absurd HA.out (by simp [w8_RulesBack.j0])
  | succ kj2 =>
   have H := HA.out
   clear HA
   simp only [w8_RulesBack.j0] at H
   by_cases c6 : x25_2 = true
   ·
    subst c6
    have H1 : ((w8_awake.f kj2).bind fun t279 => (some t279)) = some r := by rw [if_pos rfl] at H; exact H
    clear H
    have H := H1
    clear H1
    replace H := oB H
    obtain ⟨t279, A70, H⟩ := H
    replace H : (some t279) = some r := H
    have A7 := aK A70
    clear A70
    obtain rfl := oI H
    go_wp2_with (first | ((with_reducible refine gate_callee (f := 13) rfl ?_); refine goesL_ (some 26) rfl rfl Tryz.func13 (by kernel_rfl) rfl #[] rfl (by (try simp only [qM0, qM1, qM2]); first | done | rfl | (simp only [qD0, qD1]; rfl)) ?_; (with_reducible refine (w8_awake.calls kj2  t279 _ A7.out).mono ?_); rintro e w8 ⟨rfl, hb⟩; refine ⟨_, rfl, ?_⟩; have n0_ := aK (bSp (by repeat (first | (with_reducible first | exact HB.out | apply bAl | apply pbD | apply bD1) | exact HB.out)) hb); clear HB; have HB := n0_; clear n0_; (try clear hb); (try clear hb2); (try clear hk); (try clear hi)))
    go_ret
    exact ⟨by first | rfl | (simp [eWn, eWs] <;> rfl) | (simp [*, eWn, eWs] <;> rfl), by repeat (first | (with_reducible first | exact HB.out | apply bAl | apply pbD | apply bD1) | exact HB.out)⟩
   ·
    replace c6 := Bool.eq_false_iff.mpr c6
    subst c6
    have H1 : ((rules_Print.f l0).bind fun bt280 => (if bt280.2 = 0 then ((rules_Parse.f bt280.1).bind fun bt282 => (if bt282.2.2 = 4 then (if (bt280.1.size : Int) > 65536 then ((w8_awake.f kj2).bind fun t287 => (some t287)) else (some false)) else (if bt282.2.2 = 0 then (if bt282.2.1 = 0 then ((r8_Unlined.f l0).bind fun t288 => ((r8_Same.f kj2 bt282.1 t288).bind fun t291 => (if t291 = true then (w8_RulesBack.j1 kj2 a1) else (some false)))) else (some false)) else (some false)))) else (w8_RulesBack.j1 kj2 a1))) = some r := by rw [if_neg (show ¬ (false = true) by decide)] at H; exact H
    clear H
    have H := H1
    clear H1
    replace H := oB H
    obtain ⟨⟨t280, t281⟩, A90, H⟩ := H
    try dsimp only at H
    have A9 := aK A90
    clear A90
    have HC10 := aK H
    clear H
    go_upto_if 33 with (first | ((with_reducible refine gate_callee (f := 18) rfl ?_); refine goesL_ (some 29) rfl rfl Tryz.func18 (by kernel_rfl) rfl #[.slice A0 l0.length c0] rfl (by (try simp only [qM0, qM1, qM2]); first | done | rfl | (simp only [qD0, qD1]; rfl)) ?_; (with_reducible refine (rules_Print.calls _ _ l0 t280 t281 _ ?side1 ?side2 A9.out).mono ?_); (case side1 => repeat (first | exact (Kd.C_below HR0.out HB.out) | (with_reducible refine Kd.C_alloc ?_ _) | (with_reducible refine Kd.C_drewN ?_ _) | (with_reducible refine Kd.C_drew ?_))); (case side2 => exact HC0.out); rintro e w11 ⟨rfl, hb⟩; refine ⟨_, rfl, ?_⟩; have n0_ := aK (bSp (by repeat (first | (with_reducible first | exact HB.out | apply bAl | apply pbD | apply bD1) | exact HB.out)) hb); clear HB; have HB := n0_; clear n0_; (try clear hb); (try clear hb2); (try clear hk); (try clear hi)))
    (try simp only [Act.put, qSa, qS0, qS1])
    go_cut [] (fun wc => ∃ (kq : Nat), Aside0 (w8_RulesBack.j1 kq a1 = some r) ∧ Aside0 (kq ≤ kj2) ∧ Aside0 (Below w.heap.size w wc))
    case first =>
     have H := HC10.out
     clear HC10
     by_cases c12 : t281 = 0
     ·
      rw [if_pos c12] at H
      have c12b0 : (t281 == 0) = true := beq_iff_eq.mpr c12
      have c12b1 : (t281 != 0) = false := bne_eq_false_iff_eq.mpr c12
      clear c12
      (first | rw [c12b0] | (simp only [i64_w, i32_w]; rw [c12b0]) | skip)
      replace H := oB H
      obtain ⟨⟨t282, t283, t284⟩, A130, H⟩ := H
      try dsimp only at H
      have A13 := aK A130
      clear A130
      by_cases c14 : t284 = 4
      ·
       rw [if_pos c14] at H
       have c14b0 : (t284 == 4) = true := beq_iff_eq.mpr c14
       have c14b1 : (t284 != 4) = false := bne_eq_false_iff_eq.mpr c14
       clear c14
       by_cases c15 : (t280.size : Int) > 65536
       ·
        rw [if_pos c15] at H
        have c15b0 : decide (65536 < (t280.size : Int)) = true := decide_eq_true c15
        have c15b1 : decide (65536 < t280.size) = true := decide_eq_true (by omega)
        clear c15
        replace H := oB H
        obtain ⟨t287, A160, H⟩ := H
        replace H : (some t287) = some r := H
        have A16 := aK A160
        clear A160
        obtain rfl := oI H
        go_wp2_with (first | ((with_reducible refine gate_callee (f := 14) rfl ?_); refine goesL_ (some 36) rfl rfl Tryz.func14 (by kernel_rfl) rfl #[.string t280] rfl (by (try simp only [qM0, qM1, qM2]); first | done | rfl | (simp only [qD0, qD1]; rfl)) ?_; (with_reducible refine (rules_Parse.calls t280 t282 t283 t284 _ A13.out).mono ?_); rintro e w17 ⟨v285, rfl, ho0, hb⟩; refine ⟨_, rfl, ?_⟩; have n0_ := aK (Kd.R_lower ho0 (bSz (by repeat (first | (with_reducible first | exact HB.out | apply bAl | apply pbD | apply bD1) | exact HB.out)))); have n1_ := aK (bSp (by repeat (first | (with_reducible first | exact HB.out | apply bAl | apply pbD | apply bD1) | exact HB.out)) hb); clear HB; have HO286 := n0_; have HB := n1_; clear n0_ n1_; (try clear hb); (try clear hb2); (try clear hk); (try clear hi); (try clear ho0)) | (go_at_call 13; (with_reducible refine (w8_awake.calls kj2  t287 _ A16.out).mono ?_); rintro e w18 ⟨rfl, hb⟩; have n0_ := aK (Kd.R_below (by (with_reducible repeat (first | apply Kd.R_alloc | apply Kd.R_drewN | apply Kd.R_drew)); exact HO286.out) hb); have n1_ := aK (bSp (by repeat (first | (with_reducible first | exact HB.out | apply bAl | apply pbD | apply bD1) | exact HB.out)) hb); clear HO286; clear HB; have HO286 := n0_; have HB := n1_; clear n0_ n1_; (try clear hb); (try clear hb2); (try clear hk); (try clear hi)))
        go_ret
        exact ⟨by first | rfl | (simp [eWn, eWs] <;> rfl) | (simp [*, eWn, eWs] <;> rfl), by repeat (first | (with_reducible first | exact HB.out | apply bAl | apply pbD | apply bD1) | exact HB.out)⟩
       ·
        rw [if_neg c15] at H
        have c15b0 : decide (65536 < (t280.size : Int)) = false := decide_eq_false c15
        have c15b1 : decide (65536 < t280.size) = false := decide_eq_false (by omega)
        clear c15
        exact absurd ((oI H).trans hT.out) (by decide)
      ·
       rw [if_neg c14] at H
       have c14b0 : (t284 == 4) = false := beq_eq_false_iff_ne.mpr c14
       have c14b1 : (t284 != 4) = true := bne_iff_ne.mpr c14
       by_cases c19 : t284 = 0
       ·
        rw [if_pos c19] at H
        have c19b0 : (t284 == 0) = true := beq_iff_eq.mpr c19
        have c19b1 : (t284 != 0) = false := bne_eq_false_iff_eq.mpr c19
        clear c19
        by_cases c20 : t283 = 0
        ·
         rw [if_pos c20] at H
         have c20b0 : (t283 == 0) = true := beq_iff_eq.mpr c20
         have c20b1 : (t283 != 0) = false := bne_eq_false_iff_eq.mpr c20
         clear c20
         replace H := oB H
         obtain ⟨t288, A210, H⟩ := H
         try dsimp only at H
         have A21 := aK A210
         clear A210
         replace H := oB H
         obtain ⟨t291, A220, H⟩ := H
         try dsimp only at H
         have A22 := aK A220
         clear A220
         by_cases c23 : t291 = true
         ·
          subst c23
          have H1 : (w8_RulesBack.j1 kj2 a1) = some r := by rw [if_pos rfl] at H; exact H
          clear H
          have H := H1
          clear H1
          have H' := aK H
          clear H
          go_wp2_with (first | ((with_reducible refine gate_callee (f := 14) rfl ?_); refine goesL_ (some 36) rfl rfl Tryz.func14 (by kernel_rfl) rfl #[.string t280] rfl (by (try simp only [qM0, qM1, qM2]); first | done | rfl | (simp only [qD0, qD1]; rfl)) ?_; (with_reducible refine (rules_Parse.calls t280 t282 t283 t284 _ A13.out).mono ?_); rintro e w24 ⟨v285, rfl, ho0, hb⟩; refine ⟨_, rfl, ?_⟩; have n0_ := aK (Kd.R_lower ho0 (bSz (by repeat (first | (with_reducible first | exact HB.out | apply bAl | apply pbD | apply bD1) | exact HB.out)))); have n1_ := aK (bSp (by repeat (first | (with_reducible first | exact HB.out | apply bAl | apply pbD | apply bD1) | exact HB.out)) hb); clear HB; have HO286 := n0_; have HB := n1_; clear n0_ n1_; (try clear hb); (try clear hb2); (try clear hk); (try clear hi); (try clear ho0)) | (go_at_call 19; (with_reducible refine (r8_Unlined.calls _ _ l0 t288 _ ?side1 ?side2 A21.out).mono ?_); (case side1 => repeat (first | exact (Kd.C_below HR0.out HB.out) | (with_reducible refine Kd.C_alloc ?_ _) | (with_reducible refine Kd.C_drewN ?_ _) | (with_reducible refine Kd.C_drew ?_))); (case side2 => exact HC0.out); rintro e w25 ⟨v289, rfl, ho0, hb⟩; have n0_ := aK (Kd.R_elder' (by (with_reducible repeat (first | apply Kd.R_alloc | apply Kd.R_drewN | apply Kd.R_drew)); exact HO286.out) (Kd.R_base ho0) hb); have n1_ := aK (Kd.R_lower (Kd.R_new' ho0 (Kd.R_lt (by (with_reducible repeat (first | apply Kd.R_alloc | apply Kd.R_drewN | apply Kd.R_drew)); exact HO286.out))) (bSz (by repeat (first | (with_reducible first | exact HB.out | apply bAl | apply pbD | apply bD1) | exact HB.out)))); have n2_ := aK (bSp (by repeat (first | (with_reducible first | exact HB.out | apply bAl | apply pbD | apply bD1) | exact HB.out)) hb); clear HO286; clear HB; have HO286 := n0_; have HO290 := n1_; have HB := n2_; clear n0_ n1_ n2_; (try clear hb); (try clear hb2); (try clear hk); (try clear hi); (try clear ho0); obtain ⟨Ao26, co26, eo26⟩ := Kd.R_slice HO286.out; subst eo26; obtain ⟨Ao27, co27, eo27⟩ := Kd.R_slice HO290.out; subst eo27) | (go_at_call 16; (with_reducible refine (r8_Same.calls kj2 _ _ t282 _ _ t288 true _ ?side1 ?side2 ?side3 ?side4 A22.out).mono ?_); (case side1 => repeat (first | exact (Kd.R_reads' HO286.out).2.2 | (with_reducible refine Kd.C_alloc ?_ _) | (with_reducible refine Kd.C_drewN ?_ _) | (with_reducible refine Kd.C_drew ?_))); (case side2 => exact (Kd.R_reads' HO286.out).2.1); (case side3 => repeat (first | exact (Kd.R_reads' HO290.out).2.2 | (with_reducible refine Kd.C_alloc ?_ _) | (with_reducible refine Kd.C_drewN ?_ _) | (with_reducible refine Kd.C_drew ?_))); (case side4 => exact (Kd.R_reads' HO290.out).2.1); rintro e w' ⟨rfl, ⟨nd, rfl⟩⟩))
          go_meet
          case rel => exact ⟨_, H', ⟨by have := HJ2.out; first | omega | exact Nat.le_refl _⟩, ⟨by repeat (first | (with_reducible first | exact HB.out | apply bAl | apply pbD | apply bD1) | exact HB.out)⟩⟩
         ·
          replace c23 := Bool.eq_false_iff.mpr c23
          subst c23
          have H1 : (some false) = some r := by rw [if_neg (show ¬ (false = true) by decide)] at H; exact H
          clear H
          have H := H1
          clear H1
          exact absurd ((oI H).trans hT.out) (by decide)
        ·
         rw [if_neg c20] at H
         have c20b0 : (t283 == 0) = false := beq_eq_false_iff_ne.mpr c20
         have c20b1 : (t283 != 0) = true := bne_iff_ne.mpr c20
         exact absurd ((oI H).trans hT.out) (by decide)
       ·
        rw [if_neg c19] at H
        have c19b0 : (t284 == 0) = false := beq_eq_false_iff_ne.mpr c19
        have c19b1 : (t284 != 0) = true := bne_iff_ne.mpr c19
        exact absurd ((oI H).trans hT.out) (by decide)
     ·
      rw [if_neg c12] at H
      have c12b0 : (t281 == 0) = false := beq_eq_false_iff_ne.mpr c12
      have c12b1 : (t281 != 0) = true := bne_iff_ne.mpr c12
      (first | rw [c12b0] | (simp only [i64_w, i32_w]; rw [c12b0]) | skip)
      have H' := aK H
      clear H
      go_wp2
      go_meet
      case rel => exact ⟨_, H', ⟨by have := HJ2.out; first | omega | exact Nat.le_refl _⟩, ⟨by repeat (first | (with_reducible first | exact HB.out | apply bAl | apply pbD | apply bD1) | exact HB.out)⟩⟩
    case rest =>
     clear HC10
     try clear c1
     try clear c2
     try clear p2
     try clear c5
     try clear c6
     try clear c12
     try clear c12b0
     try clear c12b1
     try clear c13
     try clear c14
     try clear c14b0
     try clear c14b1
     try clear c15
     try clear c15b0
     try clear c15b1
     try clear c17
     try clear c18
     try clear c19
     try clear c19b0
     try clear c19b1
     try clear c20
     try clear c20b0
     try clear c20b1
     try clear c23
     try clear p2
     obtain ⟨kq, HA, HJ9, HB⟩ := hcut
     cases kq with
     | zero => exact absurd HA.out (by simp [w8_RulesBack.j1])
     | succ kj9 =>
      have H := HA.out
      clear HA
      simp only [w8_RulesBack.j1] at H
      replace H := oB H
      obtain ⟨⟨t292, t293, t294⟩, A280, H⟩ := H
      try dsimp only at H
      have A28 := aK A280
      clear A280
      by_cases c29 : t294 = 0
      ·
       rw [if_pos c29] at H
       have c29b0 : (t294 == 0) = true := beq_iff_eq.mpr c29
       have c29b1 : (t294 != 0) = false := bne_eq_false_iff_eq.mpr c29
       clear c29
       have H' := aK H
       clear H
       go_wp2_with (first | ((with_reducible refine gate_callee (f := 14) rfl ?_); refine goesL_ (some 63) rfl rfl Tryz.func14 (by kernel_rfl) rfl #[.string a1] rfl (by (try simp only [qM0, qM1, qM2]); first | done | rfl | (simp only [qD0, qD1]; rfl)) ?_; (with_reducible refine (rules_Parse.calls a1 t292 t293 t294 _ A28.out).mono ?_); rintro e w30 ⟨v295, rfl, ho0, hb⟩; refine ⟨_, rfl, ?_⟩; have n0_ := aK (Kd.R_lower ho0 (bSz (by repeat (first | (with_reducible first | exact HB.out | apply bAl | apply pbD | apply bD1) | exact HB.out)))); have n1_ := aK (bSp (by repeat (first | (with_reducible first | exact HB.out | apply bAl | apply pbD | apply bD1) | exact HB.out)) hb); clear HB; have HO296 := n0_; have HB := n1_; clear n0_ n1_; (try clear hb); (try clear hb2); (try clear hk); (try clear hi); (try clear ho0)))
       go_loopg [13] kj9 (fun kq v13 w' => ∃ (x13_3 : Int), v13 = .int .i64 x13_3 ∧ Aside0 (w8_RulesBack.l0 kq t292 x13_3 = some r) ∧ Aside0 (kq ≤ kj9) ∧ Aside0 (Kd.R k47 47 w' w.heap.size (fun _ => True) v295 t292) ∧ Aside0 (Below w.heap.size w w'))
       case atStart => exact ⟨(0), (by first | rfl | (simp; done) | (simp [*]; done)), H', ⟨Nat.le_refl _⟩, ⟨by (with_reducible repeat (first | apply Kd.R_alloc | apply Kd.R_drewN | apply Kd.R_drew)); exact HO296.out⟩, ⟨by repeat (first | (with_reducible first | exact HB.out | apply bAl | apply pbD | apply bD1) | exact HB.out)⟩⟩
       case round =>
        clear H'
        try clear c1
        try clear c2
        try clear p2
        try clear c5
        try clear c6
        try clear c12
        try clear c12b0
        try clear c12b1
        try clear c13
        try clear c14
        try clear c14b0
        try clear c14b1
        try clear c15
        try clear c15b0
        try clear c15b1
        try clear c17
        try clear c18
        try clear c19
        try clear c19b0
        try clear c19b1
        try clear c20
        try clear c20b0
        try clear c20b1
        try clear c23
        try clear c29
        try clear c29b0
        try clear c29b1
        try clear p2
        obtain ⟨x13_3, rfl, HA, HK3, HO_10, HB⟩ := hrel
        cases gk with
        | zero => exact absurd HA.out (by simp [w8_RulesBack.l0])
        | succ k3 =>
         have H := HA.out
         clear HA
         simp only [w8_RulesBack.l0] at H
         by_cases c31 : x13_3 < (t292.length : Int)
         ·
          rw [if_pos c31] at H
          have c31b0 : decide (x13_3 < (t292.length : Int)) = true := decide_eq_true c31
          clear c31
          by_cases c32 : 0 ≤ x13_3
          ·
           rw [if_pos c32] at H
           have c32b0 : decide (0 ≤ x13_3) = true := decide_eq_true c32
           clear c32
           replace H := oB H
           obtain ⟨t299, A330, H⟩ := H
           try dsimp only at H
           have A33 := aK A330
           clear A330
           by_cases c34 : t299 = true
           ·
            subst c34
            have H1 : (if ((rd_T47 t292 x13_3).f4) < 1 then (some false) else (if x13_3 > 0 then (if 0 ≤ (wrap64 (x13_3 - 1)) then (if (wrap64 (x13_3 - 1)) < (t292.length : Int) then (if ((rd_T47 t292 (wrap64 (x13_3 - 1))).f4) ≥ ((rd_T47 t292 x13_3).f4) then (some false) else (w8_RulesBack.l0 k3 t292 (wrap64 (x13_3 + 1)))) else (none)) else (none)) else (w8_RulesBack.l0 k3 t292 (wrap64 (x13_3 + 1))))) = some r := by rw [if_pos rfl] at H; exact H
            clear H
            have H := H1
            clear H1
            by_cases c35 : ((rd_T47 t292 x13_3).f4) < 1
            ·
             rw [if_pos c35] at H
             have c35b0 : decide (((rd_T47 t292 x13_3).f4) < 1) = true := decide_eq_true c35
             clear c35
             exact absurd ((oI H).trans hT.out) (by decide)
            ·
             rw [if_neg c35] at H
             have c35b0 : decide (((rd_T47 t292 x13_3).f4) < 1) = false := decide_eq_false c35
             clear c35
             by_cases c36 : x13_3 > 0
             ·
              rw [if_pos c36] at H
              have c36b0 : decide (0 < x13_3) = true := decide_eq_true c36
              clear c36
              obtain ⟨ji37, hji37⟩ : ∃ j_ : Int, (wrap64 (x13_3 - 1)) = j_ := ⟨_, rfl⟩
              replace H : (if 0 ≤ (ji37) then (if (ji37) < (t292.length : Int) then (if ((rd_T47 t292 (ji37)).f4) ≥ ((rd_T47 t292 x13_3).f4) then (some false) else (w8_RulesBack.l0 k3 t292 (wrap64 (x13_3 + 1)))) else (none)) else (none)) = some r := by first | (rw [hji37] at H; exact H) | (simp only [hji37] at H ⊢; exact H)
              (try rw [hji37] at A33)
              have hji37w : (IntKind.i64.wrap (x13_3 - 1)) = ji37 := (i64_w _).trans hji37
              by_cases c38 : 0 ≤ (ji37)
              ·
               rw [if_pos c38] at H
               have c38b0 : decide (0 ≤ (ji37)) = true := decide_eq_true c38
               clear c38
               by_cases c39 : (ji37) < (t292.length : Int)
               ·
                rw [if_pos c39] at H
                have c39b0 : decide ((ji37) < (t292.length : Int)) = true := decide_eq_true c39
                clear c39
                by_cases c40 : ((rd_T47 t292 (ji37)).f4) ≥ ((rd_T47 t292 x13_3).f4)
                ·
                 rw [if_pos c40] at H
                 have c40b0 : decide (((rd_T47 t292 x13_3).f4) ≤ ((rd_T47 t292 (ji37)).f4)) = true := decide_eq_true c40
                 clear c40
                 exact absurd ((oI H).trans hT.out) (by decide)
                ·
                 rw [if_neg c40] at H
                 have c40b0 : decide (((rd_T47 t292 x13_3).f4) ≤ ((rd_T47 t292 (ji37)).f4)) = false := decide_eq_false c40
                 clear c40
                 have H' := aK H
                 clear H
                 obtain ⟨Ao41, co41, eo41⟩ := Kd.R_slice HO_10.out
                 subst eo41
                 try go_wp2
                 have n0_ := aK (Kd.R_drew HO_10.out)
                 have n1_ := aK (bD1 HB.out)
                 clear HO_10
                 clear HB
                 have HO_10 := n0_
                 have HB := n1_
                 clear n0_ n1_
                 have p298 : 0 ≤ (x13_3 : Int) := odT (by first | (with_reducible assumption) | assumption)
                 have q298 : x13_3 < (t292.length : Int) := odT (by first | (with_reducible assumption) | assumption)
                 obtain ⟨ad298, e298, hx298_0, hx298_1, hx298_2, hx298_3, hx298_4⟩ := at_T47 (Kd.R_reads' HO_10.out).2.2 x13_3 p298 q298
                 cases e298
                 replace p298 := eq_true p298
                 replace q298 := eq_true q298
                 have p300 : 0 ≤ (x13_3 : Int) := odT (by first | (with_reducible assumption) | assumption)
                 have q300 : x13_3 < (t292.length : Int) := odT (by first | (with_reducible assumption) | assumption)
                 obtain ⟨ad300, e300, hx300_0, hx300_1, hx300_2, hx300_3, hx300_4⟩ := at_T47 (Kd.R_reads' HO_10.out).2.2 x13_3 p300 q300
                 obtain rfl : ad298 = ad300 := (by injection e300)
                 replace p300 := eq_true p300
                 replace q300 := eq_true q300
                 have p301 : 0 ≤ ((ji37) : Int) := odT (by first | (with_reducible assumption) | assumption)
                 have q301 : (ji37) < (t292.length : Int) := odT (by first | (with_reducible assumption) | assumption)
                 obtain ⟨ad301, e301, hx301_0, hx301_1, hx301_2, hx301_3, hx301_4⟩ := at_T47 (Kd.R_reads' HO_10.out).2.2 (ji37) p301 q301
                 obtain rfl : ad298 = ad301 := (by injection e301)
                 replace p301 := eq_true p301
                 replace q301 := eq_true q301
                 have p302 : 0 ≤ (x13_3 : Int) := odT (by first | (with_reducible assumption) | assumption)
                 have q302 : x13_3 < (t292.length : Int) := odT (by first | (with_reducible assumption) | assumption)
                 obtain ⟨ad302, e302, hx302_0, hx302_1, hx302_2, hx302_3, hx302_4⟩ := at_T47 (Kd.R_reads' HO_10.out).2.2 x13_3 p302 q302
                 obtain rfl : ad298 = ad302 := (by injection e302)
                 replace p302 := eq_true p302
                 replace q302 := eq_true q302
                 refine start_ (n := 32) (S := fun w' => w'.cell? (ad298.add ((x13_3).toNat * 5)) = some (.int .i64 ((rd_T47 t292 x13_3).f0)) ∧ w'.cell? ⟨(ad298.add ((x13_3).toNat * 5)).block, (ad298.add ((x13_3).toNat * 5)).off + 1, none⟩ = some (.string ((rd_T47 t292 x13_3).f1)) ∧ w'.cell? ⟨(ad298.add ((x13_3).toNat * 5)).block, (ad298.add ((x13_3).toNat * 5)).off + 2, none⟩ = some (.string ((rd_T47 t292 x13_3).f2)) ∧ w'.cell? ⟨(ad298.add ((x13_3).toNat * 5)).block, (ad298.add ((x13_3).toNat * 5)).off + 3, none⟩ = some (.int .i64 ((rd_T47 t292 x13_3).f3)) ∧ w'.cell? ⟨(ad298.add ((x13_3).toNat * 5)).block, (ad298.add ((x13_3).toNat * 5)).off + 4, none⟩ = some (.int .i64 ((rd_T47 t292 x13_3).f4)) ∧ w'.cell? (ad298.add ((x13_3).toNat * 5)) = some (.int .i64 ((rd_T47 t292 x13_3).f0)) ∧ w'.cell? ⟨(ad298.add ((x13_3).toNat * 5)).block, (ad298.add ((x13_3).toNat * 5)).off + 1, none⟩ = some (.string ((rd_T47 t292 x13_3).f1)) ∧ w'.cell? ⟨(ad298.add ((x13_3).toNat * 5)).block, (ad298.add ((x13_3).toNat * 5)).off + 2, none⟩ = some (.string ((rd_T47 t292 x13_3).f2)) ∧ w'.cell? ⟨(ad298.add ((x13_3).toNat * 5)).block, (ad298.add ((x13_3).toNat * 5)).off + 3, none⟩ = some (.int .i64 ((rd_T47 t292 x13_3).f3)) ∧ w'.cell? ⟨(ad298.add ((x13_3).toNat * 5)).block, (ad298.add ((x13_3).toNat * 5)).off + 4, none⟩ = some (.int .i64 ((rd_T47 t292 x13_3).f4)) ∧ w'.cell? (ad298.add (((ji37)).toNat * 5)) = some (.int .i64 ((rd_T47 t292 (ji37)).f0)) ∧ w'.cell? ⟨(ad298.add (((ji37)).toNat * 5)).block, (ad298.add (((ji37)).toNat * 5)).off + 1, none⟩ = some (.string ((rd_T47 t292 (ji37)).f1)) ∧ w'.cell? ⟨(ad298.add (((ji37)).toNat * 5)).block, (ad298.add (((ji37)).toNat * 5)).off + 2, none⟩ = some (.string ((rd_T47 t292 (ji37)).f2)) ∧ w'.cell? ⟨(ad298.add (((ji37)).toNat * 5)).block, (ad298.add (((ji37)).toNat * 5)).off + 3, none⟩ = some (.int .i64 ((rd_T47 t292 (ji37)).f3)) ∧ w'.cell? ⟨(ad298.add (((ji37)).toNat * 5)).block, (ad298.add (((ji37)).toNat * 5)).off + 4, none⟩ = some (.int .i64 ((rd_T47 t292 (ji37)).f4)) ∧ w'.cell? (ad298.add ((x13_3).toNat * 5)) = some (.int .i64 ((rd_T47 t292 x13_3).f0)) ∧ w'.cell? ⟨(ad298.add ((x13_3).toNat * 5)).block, (ad298.add ((x13_3).toNat * 5)).off + 1, none⟩ = some (.string ((rd_T47 t292 x13_3).f1)) ∧ w'.cell? ⟨(ad298.add ((x13_3).toNat * 5)).block, (ad298.add ((x13_3).toNat * 5)).off + 2, none⟩ = some (.string ((rd_T47 t292 x13_3).f2)) ∧ w'.cell? ⟨(ad298.add ((x13_3).toNat * 5)).block, (ad298.add ((x13_3).toNat * 5)).off + 3, none⟩ = some (.int .i64 ((rd_T47 t292 x13_3).f3)) ∧ w'.cell? ⟨(ad298.add ((x13_3).toNat * 5)).block, (ad298.add ((x13_3).toNat * 5)).off + 4, none⟩ = some (.int .i64 ((rd_T47 t292 x13_3).f4))) (ds := []) z13_0 (by kernel_rfl) rfl rfl ⟨hx298_0, hx298_1, hx298_2, hx298_3, hx298_4, hx300_0, hx300_1, hx300_2, hx300_3, hx300_4, hx301_0, hx301_1, hx301_2, hx301_3, hx301_4, hx302_0, hx302_1, hx302_2, hx302_3, hx302_4⟩ (fun hHeld => ?_); refine with_tabW w8_RulesBack.tab16 w8_RulesBack.bits16 (fun HT_ HW_ => ?_)
                 generalize wr.drew = w42 at HO_10 HB hx298_0 hx298_1 hx298_2 hx298_3 hx298_4 hx300_0 hx300_1 hx300_2 hx300_3 hx300_4 hx301_0 hx301_1 hx301_2 hx301_3 hx301_4 hx302_0 hx302_1 hx302_2 hx302_3 hx302_4 hHeld ⊢
                 refine pure_ (i := 0) (N := some 85) (v := ?_) (a' := ?_) z13_1 rfl rfl (any_of HT_.out (by kernel_rfl)) (fun _ _ _ h => h) (Or.inl ⟨by rfl, ?_⟩) ?_ ?_
                 rotate_left
                 ·
                  intro w'
                  go_simp
                  with_reducible rfl
                 rotate_left
                 ·
                  simp only [Act.put, qSa, qS0, qS1, i64_w, i32_w]
                  rfl
                 refine pure_ (i := 1) (N := some 86) (v := ?_) (a' := ?_) z13_2 rfl rfl (any_of HT_.out (by kernel_rfl)) (fun _ _ _ h => h) (Or.inl ⟨by rfl, ?_⟩) ?_ ?_
                 rotate_left
                 ·
                  intro w'
                  go_simp
                  with_reducible rfl
                 rotate_left
                 ·
                  simp only [Act.put, qSa, qS0, qS1, i64_w, i32_w]
                  rfl
                 refine pure_ (i := 2) (N := some 87) (v := ?_) (a' := ?_) z13_3 rfl rfl (any_of HT_.out (by kernel_rfl)) (fun _ _ _ h => h) (Or.inl ⟨by rfl, ?_⟩) ?_ ?_
                 rotate_left
                 ·
                  intro w'
                  go_simp
                  with_reducible rfl
                 rotate_left
                 ·
                  simp only [Act.put, qSa, qS0, qS1, i64_w, i32_w]
                  rfl
                 refine take_ (i := 3) (N := some 88) (v := ?_) (a' := ?_) z13_4 rfl rfl (take_ofW HT_.out HW_.out (by kernel_rfl)) (fun _ _ _ h => h) (Or.inl ⟨by rfl, ?_⟩) hHeld ?_ ?_
                 rotate_left
                 ·
                  rintro w' ⟨s0, s1, s2, s3, s4, s5, s6, s7, s8, s9, s10, s11, s12, s13, s14, s15, s16, s17, s18, s19⟩
                  go_simp
                  with_reducible rfl
                 rotate_left
                 ·
                  simp only [Act.put, qSa, qS0, qS1, i64_w, i32_w]
                  rfl
                 refine one_ (i := 4) (N := some 89) z13_5 rfl rfl (one_of HT_.out (by kernel_rfl)) (by decide) (fun K hK => ?_)
                 refine goes_ Tryz.func20 (by kernel_rfl) rfl #[.agg #[.int .i64 ((rd_T47 t292 x13_3).f0), .string ((rd_T47 t292 x13_3).f1), .string ((rd_T47 t292 x13_3).f2), .int .i64 ((rd_T47 t292 x13_3).f3), .int .i64 ((rd_T47 t292 x13_3).f4)]] (by rfl) rfl rfl (by (try simp only [qM0, qM1, qM2]); first | done | rfl | (simp only [qD0, qD1]; rfl)) ?_
                 with_reducible refine (rules_May.calls k3 ((rd_T47 t292 x13_3).f0) ((rd_T47 t292 x13_3).f1) ((rd_T47 t292 x13_3).f2) ((rd_T47 t292 x13_3).f3) ((rd_T47 t292 x13_3).f4) true _ A33.out).mono ?_
                 rintro e w43 ⟨rfl, hb⟩
                 have HS0_ := (hb.cell (World.block_lt_of_cell? _ _ (hHeld.1))).trans (hHeld.1)
                 have HS1_ := (hb.cell (World.block_lt_of_cell? _ _ (hHeld.2.1))).trans (hHeld.2.1)
                 have HS2_ := (hb.cell (World.block_lt_of_cell? _ _ (hHeld.2.2.1))).trans (hHeld.2.2.1)
                 have HS3_ := (hb.cell (World.block_lt_of_cell? _ _ (hHeld.2.2.2.1))).trans (hHeld.2.2.2.1)
                 have HS4_ := (hb.cell (World.block_lt_of_cell? _ _ (hHeld.2.2.2.2.1))).trans (hHeld.2.2.2.2.1)
                 have HS5_ := (hb.cell (World.block_lt_of_cell? _ _ (hHeld.2.2.2.2.2.1))).trans (hHeld.2.2.2.2.2.1)
                 have HS6_ := (hb.cell (World.block_lt_of_cell? _ _ (hHeld.2.2.2.2.2.2.1))).trans (hHeld.2.2.2.2.2.2.1)
                 have HS7_ := (hb.cell (World.block_lt_of_cell? _ _ (hHeld.2.2.2.2.2.2.2.1))).trans (hHeld.2.2.2.2.2.2.2.1)
                 have HS8_ := (hb.cell (World.block_lt_of_cell? _ _ (hHeld.2.2.2.2.2.2.2.2.1))).trans (hHeld.2.2.2.2.2.2.2.2.1)
                 have HS9_ := (hb.cell (World.block_lt_of_cell? _ _ (hHeld.2.2.2.2.2.2.2.2.2.1))).trans (hHeld.2.2.2.2.2.2.2.2.2.1)
                 have HS10_ := (hb.cell (World.block_lt_of_cell? _ _ (hHeld.2.2.2.2.2.2.2.2.2.2.1))).trans (hHeld.2.2.2.2.2.2.2.2.2.2.1)
                 have HS11_ := (hb.cell (World.block_lt_of_cell? _ _ (hHeld.2.2.2.2.2.2.2.2.2.2.2.1))).trans (hHeld.2.2.2.2.2.2.2.2.2.2.2.1)
                 have HS12_ := (hb.cell (World.block_lt_of_cell? _ _ (hHeld.2.2.2.2.2.2.2.2.2.2.2.2.1))).trans (hHeld.2.2.2.2.2.2.2.2.2.2.2.2.1)
                 have HS13_ := (hb.cell (World.block_lt_of_cell? _ _ (hHeld.2.2.2.2.2.2.2.2.2.2.2.2.2.1))).trans (hHeld.2.2.2.2.2.2.2.2.2.2.2.2.2.1)
                 have HS14_ := (hb.cell (World.block_lt_of_cell? _ _ (hHeld.2.2.2.2.2.2.2.2.2.2.2.2.2.2.1))).trans (hHeld.2.2.2.2.2.2.2.2.2.2.2.2.2.2.1)
                 have HS15_ := (hb.cell (World.block_lt_of_cell? _ _ (hHeld.2.2.2.2.2.2.2.2.2.2.2.2.2.2.2.1))).trans (hHeld.2.2.2.2.2.2.2.2.2.2.2.2.2.2.2.1)
                 have HS16_ := (hb.cell (World.block_lt_of_cell? _ _ (hHeld.2.2.2.2.2.2.2.2.2.2.2.2.2.2.2.2.1))).trans (hHeld.2.2.2.2.2.2.2.2.2.2.2.2.2.2.2.2.1)
                 have HS17_ := (hb.cell (World.block_lt_of_cell? _ _ (hHeld.2.2.2.2.2.2.2.2.2.2.2.2.2.2.2.2.2.1))).trans (hHeld.2.2.2.2.2.2.2.2.2.2.2.2.2.2.2.2.2.1)
                 have HS18_ := (hb.cell (World.block_lt_of_cell? _ _ (hHeld.2.2.2.2.2.2.2.2.2.2.2.2.2.2.2.2.2.2.1))).trans (hHeld.2.2.2.2.2.2.2.2.2.2.2.2.2.2.2.2.2.2.1)
                 have HS19_ := (hb.cell (World.block_lt_of_cell? _ _ (hHeld.2.2.2.2.2.2.2.2.2.2.2.2.2.2.2.2.2.2.2))).trans (hHeld.2.2.2.2.2.2.2.2.2.2.2.2.2.2.2.2.2.2.2)
                 refine ⟨_, rfl, ?_⟩
                 have n0_ := aK (Kd.R_below (by (with_reducible repeat (first | apply Kd.R_alloc | apply Kd.R_drewN | apply Kd.R_drew)); exact HO_10.out) hb)
                 have n1_ := aK (bSp (by repeat (first | (with_reducible first | exact HB.out | apply bAl | apply pbD | apply bD1) | exact HB.out)) hb)
                 clear HO_10
                 clear HB
                 have HO_10 := n0_
                 have HB := n1_
                 clear n0_ n1_
                 (try clear hb)
                 (try clear hb2)
                 (try clear hk)
                 (try clear hi)
                 refine hK.out _ _ ⟨HS0_, HS1_, HS2_, HS3_, HS4_, HS5_, HS6_, HS7_, HS8_, HS9_, HS10_, HS11_, HS12_, HS13_, HS14_, HS15_, HS16_, HS17_, HS18_, HS19_⟩ (fun hHeld => ?_)
                 clear hK K
                 refine norm_ (a' := ?_) ?_ ?_
                 rotate_left
                 ·
                  show Act.put _ (some 89) _ = _
                  simp only [Act.put, qSa, qS0, qS1, i64_w, i32_w]
                  rfl
                 refine pure_ (i := 5) (N := some 90) (v := ?_) (a' := ?_) z13_6 rfl rfl (any_of HT_.out (by kernel_rfl)) (fun _ _ _ h => h) (Or.inl ⟨by rfl, ?_⟩) ?_ ?_
                 rotate_left
                 ·
                  intro w'
                  go_simp
                  with_reducible rfl
                 rotate_left
                 ·
                  simp only [Act.put, qSa, qS0, qS1, i64_w, i32_w]
                  rfl
                 refine pure_ (i := 6) (N := some 91) (v := ?_) (a' := ?_) z13_7 rfl rfl (any_of HT_.out (by kernel_rfl)) (fun _ _ _ h => h) (Or.inl ⟨by rfl, ?_⟩) ?_ ?_
                 rotate_left
                 ·
                  intro w'
                  go_simp
                  with_reducible rfl
                 rotate_left
                 ·
                  simp only [Act.put, qSa, qS0, qS1, i64_w, i32_w]
                  rfl
                 refine pure_ (i := 7) (N := some 92) (v := ?_) (a' := ?_) z13_8 rfl rfl (any_of HT_.out (by kernel_rfl)) (fun _ _ _ h => h) (Or.inl ⟨by rfl, ?_⟩) ?_ ?_
                 rotate_left
                 ·
                  intro w'
                  go_simp
                  with_reducible rfl
                 rotate_left
                 ·
                  simp only [Act.put, qSa, qS0, qS1, i64_w, i32_w]
                  rfl
                 refine pure_ (i := 8) (N := some 93) (v := ?_) (a' := ?_) z13_9 rfl rfl (any_of HT_.out (by kernel_rfl)) (fun _ _ _ h => h) (Or.inl ⟨by rfl, ?_⟩) ?_ ?_
                 rotate_left
                 ·
                  intro w'
                  go_simp
                  with_reducible rfl
                 rotate_left
                 ·
                  simp only [Act.put, qSa, qS0, qS1, i64_w, i32_w]
                  rfl
                 refine pure_ (i := 9) (N := some 94) (v := ?_) (a' := ?_) z13_10 rfl rfl (any_of HT_.out (by kernel_rfl)) (fun _ _ _ h => h) (Or.inl ⟨by rfl, ?_⟩) ?_ ?_
                 rotate_left
                 ·
                  intro w'
                  go_simp
                  with_reducible rfl
                 rotate_left
                 ·
                  simp only [Act.put, qSa, qS0, qS1, i64_w, i32_w]
                  rfl
                 refine pure_ (i := 10) (N := some 95) (v := ?_) (a' := ?_) z13_11 rfl rfl (any_of HT_.out (by kernel_rfl)) (fun _ _ _ h => h) (Or.inl ⟨by rfl, ?_⟩) ?_ ?_
                 rotate_left
                 ·
                  intro w'
                  go_simp
                  with_reducible rfl
                 rotate_left
                 ·
                  simp only [Act.put, qSa, qS0, qS1, i64_w, i32_w]
                  rfl
                 refine take_ (i := 11) (N := some 96) (v := ?_) (a' := ?_) z13_12 rfl rfl (take_ofW HT_.out HW_.out (by kernel_rfl)) (fun _ _ _ h => h) (Or.inl ⟨by rfl, ?_⟩) hHeld ?_ ?_
                 rotate_left
                 ·
                  rintro w' ⟨s0, s1, s2, s3, s4, s5, s6, s7, s8, s9, s10, s11, s12, s13, s14, s15, s16, s17, s18, s19⟩
                  go_simp
                  with_reducible rfl
                 rotate_left
                 ·
                  simp only [Act.put, qSa, qS0, qS1, i64_w, i32_w]
                  rfl
                 refine pure_ (i := 12) (N := some 97) (v := ?_) (a' := ?_) z13_13 rfl rfl (any_of HT_.out (by kernel_rfl)) (fun _ _ _ h => h) (Or.inl ⟨by rfl, ?_⟩) ?_ ?_
                 rotate_left
                 ·
                  intro w'
                  go_simp
                  with_reducible rfl
                 rotate_left
                 ·
                  simp only [Act.put, qSa, qS0, qS1, i64_w, i32_w]
                  rfl
                 refine pure_ (i := 13) (N := some 98) (v := ?_) (a' := ?_) z13_14 rfl rfl (any_of HT_.out (by kernel_rfl)) (fun _ _ _ h => h) (Or.inl ⟨by rfl, ?_⟩) ?_ ?_
                 rotate_left
                 ·
                  intro w'
                  go_simp
                  with_reducible rfl
                 rotate_left
                 ·
                  simp only [Act.put, qSa, qS0, qS1, i64_w, i32_w]
                  rfl
                 refine pure_ (i := 14) (N := some 99) (v := ?_) (a' := ?_) z13_15 rfl rfl (any_of HT_.out (by kernel_rfl)) (fun _ _ _ h => h) (Or.inl ⟨by rfl, ?_⟩) ?_ ?_
                 rotate_left
                 ·
                  intro w'
                  go_simp
                  with_reducible rfl
                 rotate_left
                 ·
                  simp only [Act.put, qSa, qS0, qS1, i64_w, i32_w]
                  rfl
                 refine pure_ (i := 15) (N := some 100) (v := ?_) (a' := ?_) z13_16 rfl rfl (any_of HT_.out (by kernel_rfl)) (fun _ _ _ h => h) (Or.inl ⟨by rfl, ?_⟩) ?_ ?_
                 rotate_left
                 ·
                  intro w'
                  go_simp
                  with_reducible rfl
                 rotate_left
                 ·
                  simp only [Act.put, qSa, qS0, qS1, i64_w, i32_w]
                  rfl
                 refine pure_ (i := 16) (N := some 101) (v := ?_) (a' := ?_) z13_17 rfl rfl (any_of HT_.out (by kernel_rfl)) (fun _ _ _ h => h) (Or.inl ⟨by rfl, ?_⟩) ?_ ?_
                 rotate_left
                 ·
                  intro w'
                  go_simp
                  with_reducible rfl
                 rotate_left
                 ·
                  simp only [Act.put, qSa, qS0, qS1, i64_w, i32_w]
                  rfl
                 refine pure_ (i := 17) (N := some 102) (v := ?_) (a' := ?_) z13_18 rfl rfl (any_of HT_.out (by kernel_rfl)) (fun _ _ _ h => h) (Or.inl ⟨by rfl, ?_⟩) ?_ ?_
                 rotate_left
                 ·
                  intro w'
                  go_simp
                  with_reducible rfl
                 rotate_left
                 ·
                  simp only [Act.put, qSa, qS0, qS1, i64_w, i32_w]
                  rfl
                 refine pure_ (i := 18) (N := some 103) (v := ?_) (a' := ?_) z13_19 rfl rfl (any_of HT_.out (by kernel_rfl)) (fun _ _ _ h => h) (Or.inl ⟨by rfl, ?_⟩) ?_ ?_
                 rotate_left
                 ·
                  intro w'
                  go_simp
                  with_reducible rfl
                 rotate_left
                 ·
                  simp only [Act.put, qSa, qS0, qS1, i64_w, i32_w]
                  rfl
                 refine pure_ (i := 19) (N := some 104) (v := ?_) (a' := ?_) z13_20 rfl rfl (any_of HT_.out (by kernel_rfl)) (fun _ _ _ h => h) (Or.inl ⟨by rfl, ?_⟩) ?_ ?_
                 rotate_left
                 ·
                  intro w'
                  go_simp
                  with_reducible rfl
                 rotate_left
                 ·
                  simp only [Act.put, qSa, qS0, qS1, i64_w, i32_w]
                  rfl
                 refine pure_ (i := 20) (N := some 105) (v := ?_) (a' := ?_) z13_21 rfl rfl (any_of HT_.out (by kernel_rfl)) (fun _ _ _ h => h) (Or.inl ⟨by rfl, ?_⟩) ?_ ?_
                 rotate_left
                 ·
                  intro w'
                  go_simp
                  with_reducible rfl
                 rotate_left
                 ·
                  simp only [Act.put, qSa, qS0, qS1, i64_w, i32_w]
                  rfl
                 refine pure_ (i := 21) (N := some 106) (v := ?_) (a' := ?_) z13_22 rfl rfl (any_of HT_.out (by kernel_rfl)) (fun _ _ _ h => h) (Or.inl ⟨by rfl, ?_⟩) ?_ ?_
                 rotate_left
                 ·
                  intro w'
                  go_simp
                  with_reducible rfl
                 rotate_left
                 ·
                  simp only [Act.put, qSa, qS0, qS1, i64_w, i32_w]
                  rfl
                 refine pure_ (i := 22) (N := some 107) (v := ?_) (a' := ?_) z13_23 rfl rfl (any_of HT_.out (by kernel_rfl)) (fun _ _ _ h => h) (Or.inl ⟨by rfl, ?_⟩) ?_ ?_
                 rotate_left
                 ·
                  intro w'
                  go_simp
                  with_reducible rfl
                 rotate_left
                 ·
                  simp only [Act.put, qSa, qS0, qS1, i64_w, i32_w]
                  rfl
                 refine pure_ (i := 24) (N := some 109) (v := ?_) (a' := ?_) #[true, true, true, true, true, true, true, true, true, true, true, true, true, true, true, true, true, true, true, true, true, true, true, false, true, false, false, false, false, false, false, false] rfl rfl (any_of HT_.out (by kernel_rfl)) (fun _ _ _ h => h) (Or.inl ⟨by rfl, ?_⟩) ?_ ?_
                 rotate_left
                 ·
                  intro w'
                  go_simp
                  with_reducible rfl
                 rotate_left
                 ·
                  simp only [Act.put, qSa, qS0, qS1, i64_w, i32_w]
                  rfl
                 refine pure_ (i := 25) (N := some 110) (v := ?_) (a' := ?_) #[true, true, true, true, true, true, true, true, true, true, true, true, true, true, true, true, true, true, true, true, true, true, true, false, true, true, false, false, false, false, false, false] rfl rfl (any_of HT_.out (by kernel_rfl)) (fun _ _ _ h => h) (Or.inl ⟨by rfl, ?_⟩) ?_ ?_
                 rotate_left
                 ·
                  intro w'
                  go_simp
                  with_reducible rfl
                 rotate_left
                 ·
                  simp only [Act.put, qSa, qS0, qS1, i64_w, i32_w]
                  rfl
                 refine pure_ (i := 26) (N := some 111) (v := ?_) (a' := ?_) #[true, true, true, true, true, true, true, true, true, true, true, true, true, true, true, true, true, true, true, true, true, true, true, false, true, true, true, false, false, false, false, false] rfl rfl (any_of HT_.out (by kernel_rfl)) (fun _ _ _ h => h) (Or.inl ⟨by rfl, ?_⟩) ?_ ?_
                 rotate_left
                 ·
                  intro w'
                  go_simp
                  with_reducible rfl
                 rotate_left
                 ·
                  simp only [Act.put, qSa, qS0, qS1, i64_w, i32_w]
                  rfl
                 refine pure_ (i := 27) (N := some 112) (v := ?_) (a' := ?_) #[true, true, true, true, true, true, true, true, true, true, true, true, true, true, true, true, true, true, true, true, true, true, true, false, true, true, true, true, false, false, false, false] rfl rfl (any_of HT_.out (by kernel_rfl)) (fun _ _ _ h => h) (Or.inl ⟨by rfl, ?_⟩) ?_ ?_
                 rotate_left
                 ·
                  intro w'
                  go_simp
                  with_reducible rfl
                 rotate_left
                 ·
                  simp only [Act.put, qSa, qS0, qS1, i64_w, i32_w]
                  rfl
                 refine take_ (i := 23) (N := some 108) (v := ?_) (a' := ?_) z13_24 rfl rfl (take_ofW HT_.out HW_.out (by kernel_rfl)) (fun _ _ _ h => h) (Or.inl ⟨by rfl, ?_⟩) hHeld ?_ ?_
                 rotate_left
                 ·
                  rintro w' ⟨s0, s1, s2, s3, s4, s5, s6, s7, s8, s9, s10, s11, s12, s13, s14, s15, s16, s17, s18, s19⟩
                  go_simp
                  with_reducible rfl
                 rotate_left
                 ·
                  simp only [Act.put, qSa, qS0, qS1, i64_w, i32_w]
                  rfl
                 refine take_ (i := 28) (N := some 113) (v := ?_) (a' := ?_) z13_25 rfl rfl (take_ofW HT_.out HW_.out (by kernel_rfl)) (fun _ _ _ h => h) (Or.inl ⟨by rfl, ?_⟩) hHeld ?_ ?_
                 rotate_left
                 ·
                  rintro w' ⟨s0, s1, s2, s3, s4, s5, s6, s7, s8, s9, s10, s11, s12, s13, s14, s15, s16, s17, s18, s19⟩
                  go_simp
                  with_reducible rfl
                 rotate_left
                 ·
                  simp only [Act.put, qSa, qS0, qS1, i64_w, i32_w]
                  rfl
                 refine pure_ (i := 29) (N := some 114) (v := ?_) (a' := ?_) z13_26 rfl rfl (any_of HT_.out (by kernel_rfl)) (fun _ _ _ h => h) (Or.inl ⟨by rfl, ?_⟩) ?_ ?_
                 rotate_left
                 ·
                  intro w'
                  go_simp
                  with_reducible rfl
                 rotate_left
                 ·
                  simp only [Act.put, qSa, qS0, qS1, i64_w, i32_w]
                  rfl
                 refine pure_ (i := 30) (N := some 115) (v := ?_) (a' := ?_) z13_27 rfl rfl (any_of HT_.out (by kernel_rfl)) (fun _ _ _ h => h) (Or.inl ⟨by rfl, ?_⟩) ?_ ?_
                 rotate_left
                 ·
                  intro w'
                  go_simp
                  with_reducible rfl
                 rotate_left
                 ·
                  simp only [Act.put, qSa, qS0, qS1, i64_w, i32_w]
                  rfl
                 refine pure_ (i := 31) (N := some 116) (v := ?_) (a' := ?_) z13_28 rfl rfl (any_of HT_.out (by kernel_rfl)) (fun _ _ _ h => h) (Or.inl ⟨by rfl, ?_⟩) ?_ ?_
                 rotate_left
                 ·
                  intro w'
                  go_simp
                  with_reducible rfl
                 rotate_left
                 ·
                  simp only [Act.put, qSa, qS0, qS1, i64_w, i32_w]
                  rfl
                 refine done_ (done_of HT_.out (by kernel_rfl)) ?_
                 try go_wp2
                 go_roundg k3
                 case measure => have := HJ2.out; have := HJ9.out; have := HK3.out; omega
                 case rel => exact ⟨(wrap64 (x13_3 + 1)), (by first | rfl | (simp; done) | (simp [*]; done)), H', ⟨by have := HJ2.out; have := HJ9.out; have := HK3.out; omega⟩, ⟨by (with_reducible repeat (first | apply Kd.R_alloc | apply Kd.R_drewN | apply Kd.R_drew)); exact HO_10.out⟩, ⟨by repeat (first | (with_reducible first | exact HB.out | apply bAl | apply pbD | apply bD1) | exact HB.out)⟩⟩
               ·
                rw [if_neg c39] at H
                exact absurd H (by simp)
              ·
               rw [if_neg c38] at H
               exact absurd H (by simp)
             ·
              rw [if_neg c36] at H
              have c36b0 : decide (0 < x13_3) = false := decide_eq_false c36
              clear c36
              have H' := aK H
              clear H
              obtain ⟨Ao44, co44, eo44⟩ := Kd.R_slice HO_10.out
              subst eo44
              try go_wp2
              have n0_ := aK (Kd.R_drew HO_10.out)
              have n1_ := aK (bD1 HB.out)
              clear HO_10
              clear HB
              have HO_10 := n0_
              have HB := n1_
              clear n0_ n1_
              have p298 : 0 ≤ (x13_3 : Int) := odT (by first | (with_reducible assumption) | assumption)
              have q298 : x13_3 < (t292.length : Int) := odT (by first | (with_reducible assumption) | assumption)
              obtain ⟨ad298, e298, hx298_0, hx298_1, hx298_2, hx298_3, hx298_4⟩ := at_T47 (Kd.R_reads' HO_10.out).2.2 x13_3 p298 q298
              cases e298
              replace p298 := eq_true p298
              replace q298 := eq_true q298
              have p300 : 0 ≤ (x13_3 : Int) := odT (by first | (with_reducible assumption) | assumption)
              have q300 : x13_3 < (t292.length : Int) := odT (by first | (with_reducible assumption) | assumption)
              obtain ⟨ad300, e300, hx300_0, hx300_1, hx300_2, hx300_3, hx300_4⟩ := at_T47 (Kd.R_reads' HO_10.out).2.2 x13_3 p300 q300
              obtain rfl : ad298 = ad300 := (by injection e300)
              replace p300 := eq_true p300
              replace q300 := eq_true q300
              refine start_ (n := 32) (S := fun w' => w'.cell? (ad298.add ((x13_3).toNat * 5)) = some (.int .i64 ((rd_T47 t292 x13_3).f0)) ∧ w'.cell? ⟨(ad298.add ((x13_3).toNat * 5)).block, (ad298.add ((x13_3).toNat * 5)).off + 1, none⟩ = some (.string ((rd_T47 t292 x13_3).f1)) ∧ w'.cell? ⟨(ad298.add ((x13_3).toNat * 5)).block, (ad298.add ((x13_3).toNat * 5)).off + 2, none⟩ = some (.string ((rd_T47 t292 x13_3).f2)) ∧ w'.cell? ⟨(ad298.add ((x13_3).toNat * 5)).block, (ad298.add ((x13_3).toNat * 5)).off + 3, none⟩ = some (.int .i64 ((rd_T47 t292 x13_3).f3)) ∧ w'.cell? ⟨(ad298.add ((x13_3).toNat * 5)).block, (ad298.add ((x13_3).toNat * 5)).off + 4, none⟩ = some (.int .i64 ((rd_T47 t292 x13_3).f4)) ∧ w'.cell? (ad298.add ((x13_3).toNat * 5)) = some (.int .i64 ((rd_T47 t292 x13_3).f0)) ∧ w'.cell? ⟨(ad298.add ((x13_3).toNat * 5)).block, (ad298.add ((x13_3).toNat * 5)).off + 1, none⟩ = some (.string ((rd_T47 t292 x13_3).f1)) ∧ w'.cell? ⟨(ad298.add ((x13_3).toNat * 5)).block, (ad298.add ((x13_3).toNat * 5)).off + 2, none⟩ = some (.string ((rd_T47 t292 x13_3).f2)) ∧ w'.cell? ⟨(ad298.add ((x13_3).toNat * 5)).block, (ad298.add ((x13_3).toNat * 5)).off + 3, none⟩ = some (.int .i64 ((rd_T47 t292 x13_3).f3)) ∧ w'.cell? ⟨(ad298.add ((x13_3).toNat * 5)).block, (ad298.add ((x13_3).toNat * 5)).off + 4, none⟩ = some (.int .i64 ((rd_T47 t292 x13_3).f4))) (ds := []) z13_0 (by kernel_rfl) rfl rfl ⟨hx298_0, hx298_1, hx298_2, hx298_3, hx298_4, hx300_0, hx300_1, hx300_2, hx300_3, hx300_4⟩ (fun hHeld => ?_); refine with_tabW w8_RulesBack.tab16 w8_RulesBack.bits16 (fun HT_ HW_ => ?_)
              generalize wr.drew = w45 at HO_10 HB hx298_0 hx298_1 hx298_2 hx298_3 hx298_4 hx300_0 hx300_1 hx300_2 hx300_3 hx300_4 hHeld ⊢
              refine pure_ (i := 0) (N := some 85) (v := ?_) (a' := ?_) z13_1 rfl rfl (any_of HT_.out (by kernel_rfl)) (fun _ _ _ h => h) (Or.inl ⟨by rfl, ?_⟩) ?_ ?_
              rotate_left
              ·
               intro w'
               go_simp
               with_reducible rfl
              rotate_left
              ·
               simp only [Act.put, qSa, qS0, qS1, i64_w, i32_w]
               rfl
              refine pure_ (i := 1) (N := some 86) (v := ?_) (a' := ?_) z13_2 rfl rfl (any_of HT_.out (by kernel_rfl)) (fun _ _ _ h => h) (Or.inl ⟨by rfl, ?_⟩) ?_ ?_
              rotate_left
              ·
               intro w'
               go_simp
               with_reducible rfl
              rotate_left
              ·
               simp only [Act.put, qSa, qS0, qS1, i64_w, i32_w]
               rfl
              refine pure_ (i := 2) (N := some 87) (v := ?_) (a' := ?_) z13_3 rfl rfl (any_of HT_.out (by kernel_rfl)) (fun _ _ _ h => h) (Or.inl ⟨by rfl, ?_⟩) ?_ ?_
              rotate_left
              ·
               intro w'
               go_simp
               with_reducible rfl
              rotate_left
              ·
               simp only [Act.put, qSa, qS0, qS1, i64_w, i32_w]
               rfl
              refine take_ (i := 3) (N := some 88) (v := ?_) (a' := ?_) z13_4 rfl rfl (take_ofW HT_.out HW_.out (by kernel_rfl)) (fun _ _ _ h => h) (Or.inl ⟨by rfl, ?_⟩) hHeld ?_ ?_
              rotate_left
              ·
               rintro w' ⟨s0, s1, s2, s3, s4, s5, s6, s7, s8, s9⟩
               go_simp
               with_reducible rfl
              rotate_left
              ·
               simp only [Act.put, qSa, qS0, qS1, i64_w, i32_w]
               rfl
              refine one_ (i := 4) (N := some 89) z13_5 rfl rfl (one_of HT_.out (by kernel_rfl)) (by decide) (fun K hK => ?_)
              refine goes_ Tryz.func20 (by kernel_rfl) rfl #[.agg #[.int .i64 ((rd_T47 t292 x13_3).f0), .string ((rd_T47 t292 x13_3).f1), .string ((rd_T47 t292 x13_3).f2), .int .i64 ((rd_T47 t292 x13_3).f3), .int .i64 ((rd_T47 t292 x13_3).f4)]] (by rfl) rfl rfl (by (try simp only [qM0, qM1, qM2]); first | done | rfl | (simp only [qD0, qD1]; rfl)) ?_
              with_reducible refine (rules_May.calls k3 ((rd_T47 t292 x13_3).f0) ((rd_T47 t292 x13_3).f1) ((rd_T47 t292 x13_3).f2) ((rd_T47 t292 x13_3).f3) ((rd_T47 t292 x13_3).f4) true _ A33.out).mono ?_
              rintro e w46 ⟨rfl, hb⟩
              have HS0_ := (hb.cell (World.block_lt_of_cell? _ _ (hHeld.1))).trans (hHeld.1)
              have HS1_ := (hb.cell (World.block_lt_of_cell? _ _ (hHeld.2.1))).trans (hHeld.2.1)
              have HS2_ := (hb.cell (World.block_lt_of_cell? _ _ (hHeld.2.2.1))).trans (hHeld.2.2.1)
              have HS3_ := (hb.cell (World.block_lt_of_cell? _ _ (hHeld.2.2.2.1))).trans (hHeld.2.2.2.1)
              have HS4_ := (hb.cell (World.block_lt_of_cell? _ _ (hHeld.2.2.2.2.1))).trans (hHeld.2.2.2.2.1)
              have HS5_ := (hb.cell (World.block_lt_of_cell? _ _ (hHeld.2.2.2.2.2.1))).trans (hHeld.2.2.2.2.2.1)
              have HS6_ := (hb.cell (World.block_lt_of_cell? _ _ (hHeld.2.2.2.2.2.2.1))).trans (hHeld.2.2.2.2.2.2.1)
              have HS7_ := (hb.cell (World.block_lt_of_cell? _ _ (hHeld.2.2.2.2.2.2.2.1))).trans (hHeld.2.2.2.2.2.2.2.1)
              have HS8_ := (hb.cell (World.block_lt_of_cell? _ _ (hHeld.2.2.2.2.2.2.2.2.1))).trans (hHeld.2.2.2.2.2.2.2.2.1)
              have HS9_ := (hb.cell (World.block_lt_of_cell? _ _ (hHeld.2.2.2.2.2.2.2.2.2))).trans (hHeld.2.2.2.2.2.2.2.2.2)
              refine ⟨_, rfl, ?_⟩
              have n0_ := aK (Kd.R_below (by (with_reducible repeat (first | apply Kd.R_alloc | apply Kd.R_drewN | apply Kd.R_drew)); exact HO_10.out) hb)
              have n1_ := aK (bSp (by repeat (first | (with_reducible first | exact HB.out | apply bAl | apply pbD | apply bD1) | exact HB.out)) hb)
              clear HO_10
              clear HB
              have HO_10 := n0_
              have HB := n1_
              clear n0_ n1_
              (try clear hb)
              (try clear hb2)
              (try clear hk)
              (try clear hi)
              refine hK.out _ _ ⟨HS0_, HS1_, HS2_, HS3_, HS4_, HS5_, HS6_, HS7_, HS8_, HS9_⟩ (fun hHeld => ?_)
              clear hK K
              refine norm_ (a' := ?_) ?_ ?_
              rotate_left
              ·
               show Act.put _ (some 89) _ = _
               simp only [Act.put, qSa, qS0, qS1, i64_w, i32_w]
               rfl
              refine pure_ (i := 5) (N := some 90) (v := ?_) (a' := ?_) z13_6 rfl rfl (any_of HT_.out (by kernel_rfl)) (fun _ _ _ h => h) (Or.inl ⟨by rfl, ?_⟩) ?_ ?_
              rotate_left
              ·
               intro w'
               go_simp
               with_reducible rfl
              rotate_left
              ·
               simp only [Act.put, qSa, qS0, qS1, i64_w, i32_w]
               rfl
              refine pure_ (i := 6) (N := some 91) (v := ?_) (a' := ?_) z13_7 rfl rfl (any_of HT_.out (by kernel_rfl)) (fun _ _ _ h => h) (Or.inl ⟨by rfl, ?_⟩) ?_ ?_
              rotate_left
              ·
               intro w'
               go_simp
               with_reducible rfl
              rotate_left
              ·
               simp only [Act.put, qSa, qS0, qS1, i64_w, i32_w]
               rfl
              refine pure_ (i := 7) (N := some 92) (v := ?_) (a' := ?_) z13_8 rfl rfl (any_of HT_.out (by kernel_rfl)) (fun _ _ _ h => h) (Or.inl ⟨by rfl, ?_⟩) ?_ ?_
              rotate_left
              ·
               intro w'
               go_simp
               with_reducible rfl
              rotate_left
              ·
               simp only [Act.put, qSa, qS0, qS1, i64_w, i32_w]
               rfl
              refine pure_ (i := 8) (N := some 93) (v := ?_) (a' := ?_) z13_9 rfl rfl (any_of HT_.out (by kernel_rfl)) (fun _ _ _ h => h) (Or.inl ⟨by rfl, ?_⟩) ?_ ?_
              rotate_left
              ·
               intro w'
               go_simp
               with_reducible rfl
              rotate_left
              ·
               simp only [Act.put, qSa, qS0, qS1, i64_w, i32_w]
               rfl
              refine pure_ (i := 9) (N := some 94) (v := ?_) (a' := ?_) z13_10 rfl rfl (any_of HT_.out (by kernel_rfl)) (fun _ _ _ h => h) (Or.inl ⟨by rfl, ?_⟩) ?_ ?_
              rotate_left
              ·
               intro w'
               go_simp
               with_reducible rfl
              rotate_left
              ·
               simp only [Act.put, qSa, qS0, qS1, i64_w, i32_w]
               rfl
              refine pure_ (i := 10) (N := some 95) (v := ?_) (a' := ?_) z13_11 rfl rfl (any_of HT_.out (by kernel_rfl)) (fun _ _ _ h => h) (Or.inl ⟨by rfl, ?_⟩) ?_ ?_
              rotate_left
              ·
               intro w'
               go_simp
               with_reducible rfl
              rotate_left
              ·
               simp only [Act.put, qSa, qS0, qS1, i64_w, i32_w]
               rfl
              refine take_ (i := 11) (N := some 96) (v := ?_) (a' := ?_) z13_12 rfl rfl (take_ofW HT_.out HW_.out (by kernel_rfl)) (fun _ _ _ h => h) (Or.inl ⟨by rfl, ?_⟩) hHeld ?_ ?_
              rotate_left
              ·
               rintro w' ⟨s0, s1, s2, s3, s4, s5, s6, s7, s8, s9⟩
               go_simp
               with_reducible rfl
              rotate_left
              ·
               simp only [Act.put, qSa, qS0, qS1, i64_w, i32_w]
               rfl
              refine pure_ (i := 12) (N := some 97) (v := ?_) (a' := ?_) z13_13 rfl rfl (any_of HT_.out (by kernel_rfl)) (fun _ _ _ h => h) (Or.inl ⟨by rfl, ?_⟩) ?_ ?_
              rotate_left
              ·
               intro w'
               go_simp
               with_reducible rfl
              rotate_left
              ·
               simp only [Act.put, qSa, qS0, qS1, i64_w, i32_w]
               rfl
              refine pure_ (i := 13) (N := some 98) (v := ?_) (a' := ?_) z13_14 rfl rfl (any_of HT_.out (by kernel_rfl)) (fun _ _ _ h => h) (Or.inl ⟨by rfl, ?_⟩) ?_ ?_
              rotate_left
              ·
               intro w'
               go_simp
               with_reducible rfl
              rotate_left
              ·
               simp only [Act.put, qSa, qS0, qS1, i64_w, i32_w]
               rfl
              refine pure_ (i := 14) (N := some 99) (v := ?_) (a' := ?_) z13_15 rfl rfl (any_of HT_.out (by kernel_rfl)) (fun _ _ _ h => h) (Or.inl ⟨by rfl, ?_⟩) ?_ ?_
              rotate_left
              ·
               intro w'
               go_simp
               with_reducible rfl
              rotate_left
              ·
               simp only [Act.put, qSa, qS0, qS1, i64_w, i32_w]
               rfl
              refine pure_ (i := 15) (N := some 100) (v := ?_) (a' := ?_) z13_16 rfl rfl (any_of HT_.out (by kernel_rfl)) (fun _ _ _ h => h) (Or.inl ⟨by rfl, ?_⟩) ?_ ?_
              rotate_left
              ·
               intro w'
               go_simp
               with_reducible rfl
              rotate_left
              ·
               simp only [Act.put, qSa, qS0, qS1, i64_w, i32_w]
               rfl
              refine pure_ (i := 16) (N := some 101) (v := ?_) (a' := ?_) z13_17 rfl rfl (any_of HT_.out (by kernel_rfl)) (fun _ _ _ h => h) (Or.inl ⟨by rfl, ?_⟩) ?_ ?_
              rotate_left
              ·
               intro w'
               go_simp
               with_reducible rfl
              rotate_left
              ·
               simp only [Act.put, qSa, qS0, qS1, i64_w, i32_w]
               rfl
              refine pure_ (i := 17) (N := some 102) (v := ?_) (a' := ?_) z13_18 rfl rfl (any_of HT_.out (by kernel_rfl)) (fun _ _ _ h => h) (Or.inl ⟨by rfl, ?_⟩) ?_ ?_
              rotate_left
              ·
               intro w'
               go_simp
               with_reducible rfl
              rotate_left
              ·
               simp only [Act.put, qSa, qS0, qS1, i64_w, i32_w]
               rfl
              refine pure_ (i := 18) (N := some 103) (v := undef) (a' := ?_) z13_19 rfl rfl (any_of HT_.out (by kernel_rfl)) (fun _ _ _ h => h) (Or.inr ⟨by rfl, rfl⟩) ?_ ?_
              rotate_left
              ·
               simp only [Act.put, qSa, qS0, qS1, i64_w, i32_w]
               rfl
              refine pure_ (i := 19) (N := some 104) (v := undef) (a' := ?_) z13_20 rfl rfl (any_of HT_.out (by kernel_rfl)) (fun _ _ _ h => h) (Or.inr ⟨by rfl, rfl⟩) ?_ ?_
              rotate_left
              ·
               simp only [Act.put, qSa, qS0, qS1, i64_w, i32_w]
               rfl
              refine pure_ (i := 20) (N := some 105) (v := undef) (a' := ?_) z13_21 rfl rfl (any_of HT_.out (by kernel_rfl)) (fun _ _ _ h => h) (Or.inr ⟨by rfl, rfl⟩) ?_ ?_
              rotate_left
              ·
               simp only [Act.put, qSa, qS0, qS1, i64_w, i32_w]
               rfl
              refine pure_ (i := 21) (N := some 106) (v := undef) (a' := ?_) z13_22 rfl rfl (any_of HT_.out (by kernel_rfl)) (fun _ _ _ h => h) (Or.inr ⟨by rfl, rfl⟩) ?_ ?_
              rotate_left
              ·
               simp only [Act.put, qSa, qS0, qS1, i64_w, i32_w]
               rfl
              refine pure_ (i := 22) (N := some 107) (v := undef) (a' := ?_) z13_23 rfl rfl (any_of HT_.out (by kernel_rfl)) (fun _ _ _ h => h) (Or.inr ⟨by rfl, rfl⟩) ?_ ?_
              rotate_left
              ·
               simp only [Act.put, qSa, qS0, qS1, i64_w, i32_w]
               rfl
              refine pure_ (i := 23) (N := some 108) (v := undef) (a' := ?_) #[true, true, true, true, true, true, true, true, true, true, true, true, true, true, true, true, true, true, true, true, true, true, true, true, false, false, false, false, false, false, false, false] rfl rfl (any_of HT_.out (by kernel_rfl)) (fun _ _ _ h => h) (Or.inr ⟨by rfl, rfl⟩) ?_ ?_
              rotate_left
              ·
               simp only [Act.put, qSa, qS0, qS1, i64_w, i32_w]
               rfl
              refine pure_ (i := 24) (N := some 109) (v := undef) (a' := ?_) #[true, true, true, true, true, true, true, true, true, true, true, true, true, true, true, true, true, true, true, true, true, true, true, true, true, false, false, false, false, false, false, false] rfl rfl (any_of HT_.out (by kernel_rfl)) (fun _ _ _ h => h) (Or.inr ⟨by rfl, rfl⟩) ?_ ?_
              rotate_left
              ·
               simp only [Act.put, qSa, qS0, qS1, i64_w, i32_w]
               rfl
              refine pure_ (i := 25) (N := some 110) (v := undef) (a' := ?_) #[true, true, true, true, true, true, true, true, true, true, true, true, true, true, true, true, true, true, true, true, true, true, true, true, true, true, false, false, false, false, false, false] rfl rfl (any_of HT_.out (by kernel_rfl)) (fun _ _ _ h => h) (Or.inr ⟨by rfl, rfl⟩) ?_ ?_
              rotate_left
              ·
               simp only [Act.put, qSa, qS0, qS1, i64_w, i32_w]
               rfl
              refine pure_ (i := 26) (N := some 111) (v := undef) (a' := ?_) #[true, true, true, true, true, true, true, true, true, true, true, true, true, true, true, true, true, true, true, true, true, true, true, true, true, true, true, false, false, false, false, false] rfl rfl (any_of HT_.out (by kernel_rfl)) (fun _ _ _ h => h) (Or.inr ⟨by rfl, rfl⟩) ?_ ?_
              rotate_left
              ·
               simp only [Act.put, qSa, qS0, qS1, i64_w, i32_w]
               rfl
              refine pure_ (i := 27) (N := some 112) (v := undef) (a' := ?_) z13_24 rfl rfl (any_of HT_.out (by kernel_rfl)) (fun _ _ _ h => h) (Or.inr ⟨by rfl, rfl⟩) ?_ ?_
              rotate_left
              ·
               simp only [Act.put, qSa, qS0, qS1, i64_w, i32_w]
               rfl
              refine pure_ (i := 28) (N := some 113) (v := undef) (a' := ?_) z13_25 rfl rfl (any_of HT_.out (by kernel_rfl)) (fun _ _ _ h => h) (Or.inr ⟨by rfl, rfl⟩) ?_ ?_
              rotate_left
              ·
               simp only [Act.put, qSa, qS0, qS1, i64_w, i32_w]
               rfl
              refine pure_ (i := 29) (N := some 114) (v := undef) (a' := ?_) z13_26 rfl rfl (any_of HT_.out (by kernel_rfl)) (fun _ _ _ h => h) (Or.inr ⟨by rfl, rfl⟩) ?_ ?_
              rotate_left
              ·
               simp only [Act.put, qSa, qS0, qS1, i64_w, i32_w]
               rfl
              refine pure_ (i := 30) (N := some 115) (v := ?_) (a' := ?_) z13_27 rfl rfl (any_of HT_.out (by kernel_rfl)) (fun _ _ _ h => h) (Or.inl ⟨by rfl, ?_⟩) ?_ ?_
              rotate_left
              ·
               intro w'
               go_simp
               with_reducible rfl
              rotate_left
              ·
               simp only [Act.put, qSa, qS0, qS1, i64_w, i32_w]
               rfl
              refine pure_ (i := 31) (N := some 116) (v := ?_) (a' := ?_) z13_28 rfl rfl (any_of HT_.out (by kernel_rfl)) (fun _ _ _ h => h) (Or.inl ⟨by rfl, ?_⟩) ?_ ?_
              rotate_left
              ·
               intro w'
               go_simp
               with_reducible rfl
              rotate_left
              ·
               simp only [Act.put, qSa, qS0, qS1, i64_w, i32_w]
               rfl
              refine done_ (done_of HT_.out (by kernel_rfl)) ?_
              try go_wp2
              go_roundg k3
              case measure => have := HJ2.out; have := HJ9.out; have := HK3.out; omega
              case rel => exact ⟨(wrap64 (x13_3 + 1)), (by first | rfl | (simp; done) | (simp [*]; done)), H', ⟨by have := HJ2.out; have := HJ9.out; have := HK3.out; omega⟩, ⟨by (with_reducible repeat (first | apply Kd.R_alloc | apply Kd.R_drewN | apply Kd.R_drew)); exact HO_10.out⟩, ⟨by repeat (first | (with_reducible first | exact HB.out | apply bAl | apply pbD | apply bD1) | exact HB.out)⟩⟩
           ·
            replace c34 := Bool.eq_false_iff.mpr c34
            subst c34
            have H1 : (some false) = some r := by rw [if_neg (show ¬ (false = true) by decide)] at H; exact H
            clear H
            have H := H1
            clear H1
            exact absurd ((oI H).trans hT.out) (by decide)
          ·
           rw [if_neg c32] at H
           exact absurd H (by simp)
         ·
          rw [if_neg c31] at H
          have c31b0 : decide (x13_3 < (t292.length : Int)) = false := decide_eq_false c31
          clear c31
          replace H := oB H
          obtain ⟨⟨t303, t304⟩, A470, H⟩ := H
          try dsimp only at H
          have A47 := aK A470
          clear A470
          replace H := oB H
          obtain ⟨⟨t305, t306, t307⟩, A480, H⟩ := H
          try dsimp only at H
          have A48 := aK A480
          clear A480
          by_cases c49 : t304 = 0
          ·
           rw [if_pos c49] at H
           have c49b0 : (t304 == 0) = true := beq_iff_eq.mpr c49
           have c49b1 : (t304 != 0) = false := bne_eq_false_iff_eq.mpr c49
           clear c49
           by_cases c50 : t307 = 0
           ·
            rw [if_pos c50] at H
            have c50b0 : (t307 == 0) = true := beq_iff_eq.mpr c50
            have c50b1 : (t307 != 0) = false := bne_eq_false_iff_eq.mpr c50
            clear c50
            replace H := oB H
            obtain ⟨t310, A510, H⟩ := H
            try dsimp only at H
            have A51 := aK A510
            clear A510
            replace H := oB H
            obtain ⟨t313, A520, H⟩ := H
            try dsimp only at H
            have A52 := aK A520
            clear A520
            by_cases c53 : t313 = true
            ·
             subst c53
             have H1 : ((w8_awake.f k3).bind fun t314 => (some t314)) = some r := by rw [if_pos rfl] at H; exact H
             clear H
             have H := H1
             clear H1
             replace H := oB H
             obtain ⟨t314, A540, H⟩ := H
             replace H : (some t314) = some r := H
             have A54 := aK A540
             clear A540
             obtain rfl := oI H
             obtain ⟨Ao55, co55, eo55⟩ := Kd.R_slice HO_10.out
             subst eo55
             go_wp2_with (first | ((with_reducible refine gate_callee (f := 18) rfl ?_); refine goesL_ (some 119) rfl rfl Tryz.func18 (by kernel_rfl) rfl #[.slice Ao55 t292.length co55] rfl (by (try simp only [qM0, qM1, qM2]); first | done | rfl | (simp only [qD0, qD1]; rfl)) ?_; (with_reducible refine (rules_Print.calls _ _ t292 t303 t304 _ ?side1 ?side2 A47.out).mono ?_); (case side1 => repeat (first | exact (Kd.R_reads' HO_10.out).2.2 | (with_reducible refine Kd.C_alloc ?_ _) | (with_reducible refine Kd.C_drewN ?_ _) | (with_reducible refine Kd.C_drew ?_))); (case side2 => exact (Kd.R_reads' HO_10.out).2.1); rintro e w56 ⟨rfl, hb⟩; refine ⟨_, rfl, ?_⟩; have n0_ := aK (Kd.R_below (by (with_reducible repeat (first | apply Kd.R_alloc | apply Kd.R_drewN | apply Kd.R_drew)); exact HO_10.out) hb); have n1_ := aK (bSp (by repeat (first | (with_reducible first | exact HB.out | apply bAl | apply pbD | apply bD1) | exact HB.out)) hb); clear HO_10; clear HB; have HO_10 := n0_; have HB := n1_; clear n0_ n1_; (try clear hb); (try clear hb2); (try clear hk); (try clear hi)) | ((with_reducible refine gate_callee (f := 14) rfl ?_); refine goesL_ (some 124) rfl rfl Tryz.func14 (by kernel_rfl) rfl #[.string t303] rfl (by (try simp only [qM0, qM1, qM2]); first | done | rfl | (simp only [qD0, qD1]; rfl)) ?_; (with_reducible refine (rules_Parse.calls t303 t305 t306 t307 _ A48.out).mono ?_); rintro e w57 ⟨v308, rfl, ho0, hb⟩; refine ⟨_, rfl, ?_⟩; have n0_ := aK (Kd.R_elder' (by (with_reducible repeat (first | apply Kd.R_alloc | apply Kd.R_drewN | apply Kd.R_drew)); exact HO_10.out) (Kd.R_base ho0) hb); have n1_ := aK (Kd.R_lower (Kd.R_new' ho0 (Kd.R_lt (by (with_reducible repeat (first | apply Kd.R_alloc | apply Kd.R_drewN | apply Kd.R_drew)); exact HO_10.out))) (bSz (by repeat (first | (with_reducible first | exact HB.out | apply bAl | apply pbD | apply bD1) | exact HB.out)))); have n2_ := aK (bSp (by repeat (first | (with_reducible first | exact HB.out | apply bAl | apply pbD | apply bD1) | exact HB.out)) hb); clear HO_10; clear HB; have HO_10 := n0_; have HO309 := n1_; have HB := n2_; clear n0_ n1_ n2_; (try clear hb); (try clear hb2); (try clear hk); (try clear hi); (try clear ho0)) | (go_at_call 19; (with_reducible refine (r8_Unlined.calls _ _ t292 t310 _ ?side1 ?side2 A51.out).mono ?_); (case side1 => repeat (first | exact (Kd.R_reads' HO_10.out).2.2 | (with_reducible refine Kd.C_alloc ?_ _) | (with_reducible refine Kd.C_drewN ?_ _) | (with_reducible refine Kd.C_drew ?_))); (case side2 => exact (Kd.R_reads' HO_10.out).2.1); rintro e w58 ⟨v311, rfl, ho0, hb⟩; have n0_ := aK (Kd.R_elder' (by (with_reducible repeat (first | apply Kd.R_alloc | apply Kd.R_drewN | apply Kd.R_drew)); exact HO_10.out) (Kd.R_base ho0) hb); have n1_ := aK (Kd.R_elder' (by (with_reducible repeat (first | apply Kd.R_alloc | apply Kd.R_drewN | apply Kd.R_drew)); exact HO309.out) (Kd.R_base ho0) hb); have n2_ := aK (Kd.R_lower (Kd.R_new' (Kd.R_new' ho0 (Kd.R_lt (by (with_reducible repeat (first | apply Kd.R_alloc | apply Kd.R_drewN | apply Kd.R_drew)); exact HO_10.out))) (Kd.R_lt (by (with_reducible repeat (first | apply Kd.R_alloc | apply Kd.R_drewN | apply Kd.R_drew)); exact HO309.out))) (bSz (by repeat (first | (with_reducible first | exact HB.out | apply bAl | apply pbD | apply bD1) | exact HB.out)))); have n3_ := aK (bSp (by repeat (first | (with_reducible first | exact HB.out | apply bAl | apply pbD | apply bD1) | exact HB.out)) hb); clear HO_10; clear HO309; clear HB; have HO_10 := n0_; have HO309 := n1_; have HO312 := n2_; have HB := n3_; clear n0_ n1_ n2_ n3_; (try clear hb); (try clear hb2); (try clear hk); (try clear hi); (try clear ho0); obtain ⟨Ao59, co59, eo59⟩ := Kd.R_slice HO309.out; subst eo59; obtain ⟨Ao60, co60, eo60⟩ := Kd.R_slice HO312.out; subst eo60) | (go_at_call 16; (with_reducible refine (r8_Same.calls k3 _ _ t305 _ _ t310 true _ ?side1 ?side2 ?side3 ?side4 A52.out).mono ?_); (case side1 => repeat (first | exact (Kd.R_reads' HO309.out).2.2 | (with_reducible refine Kd.C_alloc ?_ _) | (with_reducible refine Kd.C_drewN ?_ _) | (with_reducible refine Kd.C_drew ?_))); (case side2 => exact (Kd.R_reads' HO309.out).2.1); (case side3 => repeat (first | exact (Kd.R_reads' HO312.out).2.2 | (with_reducible refine Kd.C_alloc ?_ _) | (with_reducible refine Kd.C_drewN ?_ _) | (with_reducible refine Kd.C_drew ?_))); (case side4 => exact (Kd.R_reads' HO312.out).2.1); rintro e w' ⟨rfl, ⟨nd, rfl⟩⟩) | (go_at_call 13; (with_reducible refine (w8_awake.calls k3  t314 _ A54.out).mono ?_); rintro e w61 ⟨rfl, hb⟩; have n0_ := aK (Kd.R_below (by (with_reducible repeat (first | apply Kd.R_alloc | apply Kd.R_drewN | apply Kd.R_drew)); exact HO_10.out) hb); have n1_ := aK (Kd.R_below (by (with_reducible repeat (first | apply Kd.R_alloc | apply Kd.R_drewN | apply Kd.R_drew)); exact HO309.out) hb); have n2_ := aK (Kd.R_below (by (with_reducible repeat (first | apply Kd.R_alloc | apply Kd.R_drewN | apply Kd.R_drew)); exact HO312.out) hb); have n3_ := aK (bSp (by repeat (first | (with_reducible first | exact HB.out | apply bAl | apply pbD | apply bD1) | exact HB.out)) hb); clear HO_10; clear HO309; clear HO312; clear HB; have HO_10 := n0_; have HO309 := n1_; have HO312 := n2_; have HB := n3_; clear n0_ n1_ n2_ n3_; (try clear hb); (try clear hb2); (try clear hk); (try clear hi)))
             go_ret
             exact ⟨by first | rfl | (simp [eWn, eWs] <;> rfl) | (simp [*, eWn, eWs] <;> rfl), by repeat (first | (with_reducible first | exact HB.out | apply bAl | apply pbD | apply bD1) | exact HB.out)⟩
            ·
             replace c53 := Bool.eq_false_iff.mpr c53
             subst c53
             have H1 : (some false) = some r := by rw [if_neg (show ¬ (false = true) by decide)] at H; exact H
             clear H
             have H := H1
             clear H1
             exact absurd ((oI H).trans hT.out) (by decide)
           ·
            rw [if_neg c50] at H
            have c50b0 : (t307 == 0) = false := beq_eq_false_iff_ne.mpr c50
            have c50b1 : (t307 != 0) = true := bne_iff_ne.mpr c50
            exact absurd ((oI H).trans hT.out) (by decide)
          ·
           rw [if_neg c49] at H
           have c49b0 : (t304 == 0) = false := beq_eq_false_iff_ne.mpr c49
           have c49b1 : (t304 != 0) = true := bne_iff_ne.mpr c49
           exact absurd ((oI H).trans hT.out) (by decide)
      ·
       rw [if_neg c29] at H
       have c29b0 : (t294 == 0) = false := beq_eq_false_iff_ne.mpr c29
       have c29b1 : (t294 != 0) = true := bne_iff_ne.mpr c29
       by_cases c62 : (t292.length : Int) = 0
       ·
        rw [if_pos c62] at H
        have c62b0 : ((t292.length : Int) == 0) = true := beq_iff_eq.mpr c62
        have c62b1 : ((t292.length : Int) != 0) = false := bne_eq_false_iff_eq.mpr c62
        clear c62
        by_cases c63 : t293 ≥ 0
        ·
         rw [if_pos c63] at H
         have c63b0 : decide (0 ≤ t293) = true := decide_eq_true c63
         clear c63
         replace H := oB H
         obtain ⟨t297, A640, H⟩ := H
         replace H : (some t297) = some r := H
         have A64 := aK A640
         clear A640
         obtain rfl := oI H
         go_wp2_with (first | ((with_reducible refine gate_callee (f := 14) rfl ?_); refine goesL_ (some 63) rfl rfl Tryz.func14 (by kernel_rfl) rfl #[.string a1] rfl (by (try simp only [qM0, qM1, qM2]); first | done | rfl | (simp only [qD0, qD1]; rfl)) ?_; (with_reducible refine (rules_Parse.calls a1 t292 t293 t294 _ A28.out).mono ?_); rintro e w65 ⟨v295, rfl, ho0, hb⟩; refine ⟨_, rfl, ?_⟩; have n0_ := aK (Kd.R_lower ho0 (bSz (by repeat (first | (with_reducible first | exact HB.out | apply bAl | apply pbD | apply bD1) | exact HB.out)))); have n1_ := aK (bSp (by repeat (first | (with_reducible first | exact HB.out | apply bAl | apply pbD | apply bD1) | exact HB.out)) hb); clear HB; have HO296 := n0_; have HB := n1_; clear n0_ n1_; (try clear hb); (try clear hb2); (try clear hk); (try clear hi); (try clear ho0); obtain ⟨Ao66, co66, eo66⟩ := Kd.R_slice HO296.out; subst eo66) | (go_at_call 13; (with_reducible refine (w8_awake.calls kj9  t297 _ A64.out).mono ?_); rintro e w67 ⟨rfl, hb⟩; have n0_ := aK (Kd.R_below (by (with_reducible repeat (first | apply Kd.R_alloc | apply Kd.R_drewN | apply Kd.R_drew)); exact HO296.out) hb); have n1_ := aK (bSp (by repeat (first | (with_reducible first | exact HB.out | apply bAl | apply pbD | apply bD1) | exact HB.out)) hb); clear HO296; clear HB; have HO296 := n0_; have HB := n1_; clear n0_ n1_; (try clear hb); (try clear hb2); (try clear hk); (try clear hi)))
         go_ret
         exact ⟨by first | rfl | (simp [eWn, eWs] <;> rfl) | (simp [*, eWn, eWs] <;> rfl), by repeat (first | (with_reducible first | exact HB.out | apply bAl | apply pbD | apply bD1) | exact HB.out)⟩
        ·
         rw [if_neg c63] at H
         have c63b0 : decide (0 ≤ t293) = false := decide_eq_false c63
         clear c63
         exact absurd ((oI H).trans hT.out) (by decide)
       ·
        rw [if_neg c62] at H
        have c62b0 : ((t292.length : Int) == 0) = false := beq_eq_false_iff_ne.mpr c62
        have c62b1 : ((t292.length : Int) != 0) = true := bne_iff_ne.mpr c62
        have c62b2 : ¬ (t292 = []) := fun h_ => c62 (by rw [h_]; rfl)
        exact absurd ((oI H).trans hT.out) (by decide)
end Go.Proofs.YtgjkjoocnkdckaaGreatDoor.PChk
