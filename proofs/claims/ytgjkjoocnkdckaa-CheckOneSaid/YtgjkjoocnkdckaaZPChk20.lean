-- Written by a program of this session (prt.py), out of the translation. Lean checks it.
import Derived.Test.YtgjkjoocnkdckaaZGChkTable
import Derived.Test.YtgjkjoocnkdckaaZPChk0
import Derived.Test.YtgjkjoocnkdckaaZPChk1
import Derived.Test.YtgjkjoocnkdckaaZPChk2
import Derived.Test.YtgjkjoocnkdckaaZPChk11
import Derived.Test.YtgjkjoocnkdckaaZPChk19
namespace Go.Proofs.Ytgjkjoocnkdckaa.PChk
open Go.RowKit Go.Proofs.Ytgjkjoocnkdckaa.G Go.Proofs.YtgjkjoocnkdckaaW.PrintWords Go.Proofs.YtgjkjoocnkdckaaW.PrintLast Go.Proofs.YtgjkjoocnkdckaaW.PrintMore
attribute [local go_sem] max2_int min2_int max_two min_two max_three min_three max_four min_four   -- for this text's walks alone
set_option linter.unusedVariables false
set_option linter.unusedSimpArgs false
attribute [local go_sem high] eqA23
mutual
def w9_CheckOne.j0 : Nat → List (S23) → Int → List Int → List Int → Bool → Option (Bool)
 | 0, _, _, _, _, _ => none
 | k + 1, x0, x1, x2, x3, x30 => if x30 = true then ((w9_awake.f k).bind fun t404 => (some t404)) else ((check_Table.f x0).bind fun bt405 => (if bt405.2 = 0 then ((w9_chosen.f k x0 (wrap64 (1 + (Int.tmod (Go.bits .and .i64 x1 255) 3))) x2).bind fun bt408 => ((w9_chosen.f k x0 (wrap64 (1 + (Int.tmod (Go.bits .and .i64 x1 255) 3))) x3).bind fun bt412 => (if (bt408.1.length : Int) > (bt412.1.length : Int) then (w9_CheckOne.j1 k bt412.1 bt412.2 bt408.1 bt408.2) else (w9_CheckOne.j1 k bt408.1 bt408.2 bt412.1 bt412.2)))) else ((w9_awake.f k).bind fun t407 => (some t407))))
def w9_CheckOne.j1 : Nat → List (S23) → ByteArray → List (S23) → ByteArray → Option (Bool)
 | 0, _, _, _, _ => none
 | k + 1, x11, x12, x13, x14 => w9_CheckOne.l0 k x11 x12 x13 x14 true 0
def w9_CheckOne.l0 : Nat → List (S23) → ByteArray → List (S23) → ByteArray → Bool → Int → Option (Bool)
 | 0, _, _, _, _, _, _ => none
 | k + 1, x11, x12, x13, x14, x15, x16 => if x16 < (x11.length : Int) then (if x15 = true then (if 0 ≤ x16 then (if x16 < (x13.length : Int) then (w9_CheckOne.l0 k x11 x12 x13 x14 (((rd_T23 x11 x16).f0) == ((rd_T23 x13 x16).f0) && ((((rd_T23 x11 x16).f1).toList) == (((rd_T23 x13 x16).f1).toList) && ((((rd_T23 x11 x16).f2).toList) == (((rd_T23 x13 x16).f2).toList) && (((rd_T23 x11 x16).f3) == ((rd_T23 x13 x16).f3) && (((rd_T23 x11 x16).f4) == ((rd_T23 x13 x16).f4)))))) (wrap64 (x16 + 1))) else (none)) else (none)) else (w9_CheckOne.l0 k x11 x12 x13 x14 false (wrap64 (x16 + 1)))) else (if (x12.size : Int) ≤ (x14.size : Int) then (if 0 ≤ (x12.size : Int) then (if (x14.size : Int) ≤ (x12.size : Int) then (if 0 ≤ (x14.size : Int) then (if (((x14.extract 0 ((x12.size : Int) : Int).toNat).toList == x12.toList) == x15) = true then (if ((x12.extract 0 ((x14.size : Int) : Int).toNat).toList = x14.toList) then (if x15 = true then (if ((x12.toList == x14.toList) == ((x11.length : Int) == (x13.length : Int))) = true then ((w9_awake.f k).bind fun t418 => (some t418)) else (some false)) else (some false)) else (if x15 = true then (if ((x12.toList == x14.toList) == ((x11.length : Int) == (x13.length : Int))) = true then ((w9_awake.f k).bind fun t419 => (some t419)) else (some false)) else (if ((x12.toList == x14.toList) == false) = true then ((w9_awake.f k).bind fun t420 => (some t420)) else (some false)))) else (some false)) else (none)) else (if (((x14.extract 0 ((x12.size : Int) : Int).toNat).toList == x12.toList) == x15) = true then (if x15 = true then (if ((x12.toList == x14.toList) == ((x11.length : Int) == (x13.length : Int))) = true then ((w9_awake.f k).bind fun t421 => (some t421)) else (some false)) else (if ((x12.toList == x14.toList) == false) = true then ((w9_awake.f k).bind fun t422 => (some t422)) else (some false))) else (some false))) else (none)) else (if (x14.size : Int) ≤ (x12.size : Int) then (if 0 ≤ (x14.size : Int) then (if (false == x15) = true then (if ((x12.extract 0 ((x14.size : Int) : Int).toNat).toList = x14.toList) then (if x15 = true then (if ((x12.toList == x14.toList) == ((x11.length : Int) == (x13.length : Int))) = true then ((w9_awake.f k).bind fun t423 => (some t423)) else (some false)) else (some false)) else (if x15 = true then (if ((x12.toList == x14.toList) == ((x11.length : Int) == (x13.length : Int))) = true then ((w9_awake.f k).bind fun t424 => (some t424)) else (some false)) else (if ((x12.toList == x14.toList) == false) = true then ((w9_awake.f k).bind fun t425 => (some t425)) else (some false)))) else (some false)) else (none)) else (if (false == x15) = true then (if x15 = true then (if ((x12.toList == x14.toList) == ((x11.length : Int) == (x13.length : Int))) = true then ((w9_awake.f k).bind fun t426 => (some t426)) else (some false)) else (if ((x12.toList == x14.toList) == false) = true then ((w9_awake.f k).bind fun t427 => (some t427)) else (some false))) else (some false))))
end
def w9_CheckOne.f (k : Nat) (l0 : List (S23)) (a1 : Int) (l2 : List Int) (l3 : List Int) : Option (Bool) := (w9_long.f k l0).bind fun t403 => (if t403 = true then (w9_CheckOne.j0 k l0 a1 l2 l3 true) else (if (l2.length : Int) > 40 then (w9_CheckOne.j0 k l0 a1 l2 l3 true) else (w9_CheckOne.j0 k l0 a1 l2 l3 (decide ((l3.length : Int) > 40)))))
theorem w9_CheckOne.mono_l : ∀ k, (∀ y0 y1 y2 y3 y4, LeO (w9_CheckOne.j0 k y0 y1 y2 y3 y4) (w9_CheckOne.j0 (k + 1) y0 y1 y2 y3 y4)) ∧ (∀ y0 y1 y2 y3, LeO (w9_CheckOne.j1 k y0 y1 y2 y3) (w9_CheckOne.j1 (k + 1) y0 y1 y2 y3)) ∧ (∀ y0 y1 y2 y3 y4 y5, LeO (w9_CheckOne.l0 k y0 y1 y2 y3 y4 y5) (w9_CheckOne.l0 (k + 1) y0 y1 y2 y3 y4 y5))
 | 0 => ⟨fun _ _ _ _ _ r h => by simp [w9_CheckOne.j0] at h, fun _ _ _ _ r h => by simp [w9_CheckOne.j1] at h, fun _ _ _ _ _ _ r h => by simp [w9_CheckOne.l0] at h⟩
 | k + 1 => by
  obtain ⟨ih0, ih1, ih2⟩ := w9_CheckOne.mono_l k
  refine ⟨?_, ?_, ?_⟩
  ·
   intro y0 y1 y2 y3 y4
   unfold w9_CheckOne.j0
   repeat' first
   | (with_reducible exact ih0 _ _ _ _ _)
   | (with_reducible exact ih1 _ _ _ _)
   | (with_reducible exact ih2 _ _ _ _ _ _)
   | (with_reducible exact w9_awake.mono _)
   | (with_reducible exact w9_chosen.mono _ _ _ _)
   | (with_reducible exact w9_long.mono _ _)
   | (with_reducible exact LeO.refl _)
   | (with_reducible exact LeO.none _)
   | (with_reducible refine LeO.ite ?_ ?_)
   | (with_reducible refine LeO.bind ?_ (fun _ => ?_))
   | exact ih0 _ _ _ _ _
   | exact ih1 _ _ _ _
   | exact ih2 _ _ _ _ _ _
   | exact w9_awake.mono _
   | exact w9_chosen.mono _ _ _ _
   | exact w9_long.mono _ _
   | exact LeO.none _
   | refine LeO.ite ?_ ?_
   | refine LeO.bind ?_ (fun _ => ?_)
  ·
   intro y0 y1 y2 y3
   unfold w9_CheckOne.j1
   repeat' first
   | (with_reducible exact ih0 _ _ _ _ _)
   | (with_reducible exact ih1 _ _ _ _)
   | (with_reducible exact ih2 _ _ _ _ _ _)
   | (with_reducible exact w9_awake.mono _)
   | (with_reducible exact w9_chosen.mono _ _ _ _)
   | (with_reducible exact w9_long.mono _ _)
   | (with_reducible exact LeO.refl _)
   | (with_reducible exact LeO.none _)
   | (with_reducible refine LeO.ite ?_ ?_)
   | (with_reducible refine LeO.bind ?_ (fun _ => ?_))
   | exact ih0 _ _ _ _ _
   | exact ih1 _ _ _ _
   | exact ih2 _ _ _ _ _ _
   | exact w9_awake.mono _
   | exact w9_chosen.mono _ _ _ _
   | exact w9_long.mono _ _
   | exact LeO.none _
   | refine LeO.ite ?_ ?_
   | refine LeO.bind ?_ (fun _ => ?_)
  ·
   intro y0 y1 y2 y3 y4 y5
   unfold w9_CheckOne.l0
   repeat' first
   | (with_reducible exact ih0 _ _ _ _ _)
   | (with_reducible exact ih1 _ _ _ _)
   | (with_reducible exact ih2 _ _ _ _ _ _)
   | (with_reducible exact w9_awake.mono _)
   | (with_reducible exact w9_chosen.mono _ _ _ _)
   | (with_reducible exact w9_long.mono _ _)
   | (with_reducible exact LeO.refl _)
   | (with_reducible exact LeO.none _)
   | (with_reducible refine LeO.ite ?_ ?_)
   | (with_reducible refine LeO.bind ?_ (fun _ => ?_))
   | exact ih0 _ _ _ _ _
   | exact ih1 _ _ _ _
   | exact ih2 _ _ _ _ _ _
   | exact w9_awake.mono _
   | exact w9_chosen.mono _ _ _ _
   | exact w9_long.mono _ _
   | exact LeO.none _
   | refine LeO.ite ?_ ?_
   | refine LeO.bind ?_ (fun _ => ?_)
theorem w9_CheckOne.mono : ∀ a0 a1 a2 a3 k, LeO (w9_CheckOne.f k a0 a1 a2 a3) (w9_CheckOne.f (k + 1) a0 a1 a2 a3) := by
 intro a0 a1 a2 a3 k
 obtain ⟨ih0, ih1, ih2⟩ := w9_CheckOne.mono_l k
 unfold w9_CheckOne.f
 repeat' first
   | (with_reducible exact ih0 _ _ _ _ _)
   | (with_reducible exact ih1 _ _ _ _)
   | (with_reducible exact ih2 _ _ _ _ _ _)
   | (with_reducible exact w9_awake.mono _)
   | (with_reducible exact w9_chosen.mono _ _ _ _)
   | (with_reducible exact w9_long.mono _ _)
   | (with_reducible exact LeO.refl _)
   | (with_reducible exact LeO.none _)
   | (with_reducible refine LeO.ite ?_ ?_)
   | (with_reducible refine LeO.bind ?_ (fun _ => ?_))
   | exact ih0 _ _ _ _ _
   | exact ih1 _ _ _ _
   | exact ih2 _ _ _ _ _ _
   | exact w9_awake.mono _
   | exact w9_chosen.mono _ _ _ _
   | exact w9_long.mono _ _
   | exact LeO.none _
   | refine LeO.ite ?_ ?_
   | refine LeO.bind ?_ (fun _ => ?_)
set_option maxHeartbeats 8000000 in
set_option maxRecDepth 100000 in
theorem w9_CheckOne.calls (k : Nat) (A0 : Option Addr) (c0 : Nat) (l0 : List (S23)) (a1 : Int) (A2 : Option Addr) (c2 : Nat) (l2 : List Int) (A3 : Option Addr) (c3 : Nat) (l3 : List Int) (r : Bool) (w : World) (hr0 : Kd.C k23 w A0 l0.length l0) (hc0 : l0.length ≤ c0) (hr2 : Kd.C (Kd.int .u8) w A2 l2.length l2) (hc2 : l2.length ≤ c2) (hr3 : Kd.C (Kd.int .u8) w A3 l3.length l3) (hc3 : l3.length ≤ c3) (h : w9_CheckOne.f k l0 a1 l2 l3 = some r) (hT0 : r = true) :
  Calls Try.prog 5 #[.slice A0 l0.length c0, .int .i64 a1, .slice A2 l2.length c2, .slice A3 l3.length c3] w fun e w' => e = .returned (.bool r) ∧ Below w.heap.size w w' := by
 have hu23 := Try.underlying23
 have HR0 := aK hr0
 have HC0 := aK hc0
 clear hr0 hc0
 have HR2 := aK hr2
 have HC2 := aK hc2
 clear hr2 hc2
 have HR3 := aK hr3
 have HC3 := aK hc3
 clear hr3 hc3
 have HB := aK (Below.refl w.heap.size w)
 have H : ((w9_long.f k l0).bind fun t403 => (if t403 = true then (w9_CheckOne.j0 k l0 a1 l2 l3 true) else (if (l2.length : Int) > 40 then (w9_CheckOne.j0 k l0 a1 l2 l3 true) else (w9_CheckOne.j0 k l0 a1 l2 l3 (decide ((l3.length : Int) > 40)))))) = some r := h
 clear h
 have hT := aK hT0
 clear hT0
 have HC5 := aK H
 clear H
 go_enter Try.func5, Try.ntmps5
 go_upto_region 1 with (fail)
 repeat (go_quiet (fail); go_upto_region 1 with (fail))
 go_cut [30] (fun v30 wc => ∃ (kq : Nat) (x30_4 : Bool), v30 = .bool x30_4 ∧ Aside0 (w9_CheckOne.j0 kq l0 a1 l2 l3 x30_4 = some r) ∧ Aside0 (kq ≤ k) ∧ Aside0 (Below w.heap.size w wc))
 case first =>
  have H := HC5.out
  clear HC5
  replace H := oB H
  obtain ⟨t403, A60, H⟩ := H
  try dsimp only at H
  have A6 := aK A60
  clear A60
  by_cases c7 : t403 = true
  ·
   subst c7
   have H1 : (w9_CheckOne.j0 k l0 a1 l2 l3 true) = some r := by rw [if_pos rfl] at H; exact H
   clear H
   have H := H1
   clear H1
   have H' := aK H
   clear H
   go_wp2_with (first | (go_at_call 7; (with_reducible refine (w9_long.calls k _ _ l0 true _ ?side1 ?side2 A6.out).mono ?_); (case side1 => repeat (first | exact (Kd.C_below HR0.out HB.out) | (with_reducible refine Kd.C_alloc ?_ _) | (with_reducible refine Kd.C_drewN ?_ _) | (with_reducible refine Kd.C_drew ?_))); (case side2 => exact HC0.out); rintro e w' ⟨rfl, ⟨nd, rfl⟩⟩; (try first | exact ⟨rfl, _, World.drewN_drewN _ _ _⟩ | exact ⟨rfl, _, Eq.trans (World.drewN_drewN _ _ _) (congrArg (World.drewN _) (Nat.add_assoc _ _ _))⟩)))
   repeat (go_quiet (first | (go_at_call 7; (with_reducible refine (w9_long.calls k _ _ l0 true _ ?side1 ?side2 A6.out).mono ?_); (case side1 => repeat (first | exact (Kd.C_below HR0.out HB.out) | (with_reducible refine Kd.C_alloc ?_ _) | (with_reducible refine Kd.C_drewN ?_ _) | (with_reducible refine Kd.C_drew ?_))); (case side2 => exact HC0.out); rintro e w' ⟨rfl, ⟨nd, rfl⟩⟩; (try first | exact ⟨rfl, _, World.drewN_drewN _ _ _⟩ | exact ⟨rfl, _, Eq.trans (World.drewN_drewN _ _ _) (congrArg (World.drewN _) (Nat.add_assoc _ _ _))⟩))); try go_wp2_with (first | (go_at_call 7; (with_reducible refine (w9_long.calls k _ _ l0 true _ ?side1 ?side2 A6.out).mono ?_); (case side1 => repeat (first | exact (Kd.C_below HR0.out HB.out) | (with_reducible refine Kd.C_alloc ?_ _) | (with_reducible refine Kd.C_drewN ?_ _) | (with_reducible refine Kd.C_drew ?_))); (case side2 => exact HC0.out); rintro e w' ⟨rfl, ⟨nd, rfl⟩⟩; (try first | exact ⟨rfl, _, World.drewN_drewN _ _ _⟩ | exact ⟨rfl, _, Eq.trans (World.drewN_drewN _ _ _) (congrArg (World.drewN _) (Nat.add_assoc _ _ _))⟩))))
   go_meet
   case rel => exact ⟨_, (true), (by first | rfl | (simp; done) | (simp [*]; done)), H', ⟨by first | omega | exact Nat.le_refl _⟩, ⟨by repeat (first | (with_reducible first | exact HB.out | apply bAl | apply pbD | apply bD1) | exact HB.out)⟩⟩
  ·
   replace c7 := Bool.eq_false_iff.mpr c7
   subst c7
   have H1 : (if (l2.length : Int) > 40 then (w9_CheckOne.j0 k l0 a1 l2 l3 true) else (w9_CheckOne.j0 k l0 a1 l2 l3 (decide ((l3.length : Int) > 40)))) = some r := by rw [if_neg (show ¬ (false = true) by decide)] at H; exact H
   clear H
   have H := H1
   clear H1
   by_cases c8 : (l2.length : Int) > 40
   ·
    rw [if_pos c8] at H
    have c8b0 : decide (40 < (l2.length : Int)) = true := decide_eq_true c8
    have c8b1 : decide (40 < l2.length) = true := decide_eq_true (by omega)
    clear c8
    (first | rw [c8b0] | (simp only [i64_w, i32_w]; rw [c8b0]) | skip)
    have H' := aK H
    clear H
    go_wp2_with (first | (go_at_call 7; (with_reducible refine (w9_long.calls k _ _ l0 false _ ?side1 ?side2 A6.out).mono ?_); (case side1 => repeat (first | exact (Kd.C_below HR0.out HB.out) | (with_reducible refine Kd.C_alloc ?_ _) | (with_reducible refine Kd.C_drewN ?_ _) | (with_reducible refine Kd.C_drew ?_))); (case side2 => exact HC0.out); rintro e w' ⟨rfl, ⟨nd, rfl⟩⟩; (try first | exact ⟨rfl, _, World.drewN_drewN _ _ _⟩ | exact ⟨rfl, _, Eq.trans (World.drewN_drewN _ _ _) (congrArg (World.drewN _) (Nat.add_assoc _ _ _))⟩)))
    repeat (go_quiet (first | (go_at_call 7; (with_reducible refine (w9_long.calls k _ _ l0 false _ ?side1 ?side2 A6.out).mono ?_); (case side1 => repeat (first | exact (Kd.C_below HR0.out HB.out) | (with_reducible refine Kd.C_alloc ?_ _) | (with_reducible refine Kd.C_drewN ?_ _) | (with_reducible refine Kd.C_drew ?_))); (case side2 => exact HC0.out); rintro e w' ⟨rfl, ⟨nd, rfl⟩⟩; (try first | exact ⟨rfl, _, World.drewN_drewN _ _ _⟩ | exact ⟨rfl, _, Eq.trans (World.drewN_drewN _ _ _) (congrArg (World.drewN _) (Nat.add_assoc _ _ _))⟩))); try go_wp2_with (first | (go_at_call 7; (with_reducible refine (w9_long.calls k _ _ l0 false _ ?side1 ?side2 A6.out).mono ?_); (case side1 => repeat (first | exact (Kd.C_below HR0.out HB.out) | (with_reducible refine Kd.C_alloc ?_ _) | (with_reducible refine Kd.C_drewN ?_ _) | (with_reducible refine Kd.C_drew ?_))); (case side2 => exact HC0.out); rintro e w' ⟨rfl, ⟨nd, rfl⟩⟩; (try first | exact ⟨rfl, _, World.drewN_drewN _ _ _⟩ | exact ⟨rfl, _, Eq.trans (World.drewN_drewN _ _ _) (congrArg (World.drewN _) (Nat.add_assoc _ _ _))⟩))))
    go_meet
    case rel => exact ⟨_, (true), (by first | rfl | (simp; done) | (simp [*]; done)), H', ⟨by first | omega | exact Nat.le_refl _⟩, ⟨by repeat (first | (with_reducible first | exact HB.out | apply bAl | apply pbD | apply bD1) | exact HB.out)⟩⟩
   ·
    rw [if_neg c8] at H
    have c8b0 : decide (40 < (l2.length : Int)) = false := decide_eq_false c8
    have c8b1 : decide (40 < l2.length) = false := decide_eq_false (by omega)
    clear c8
    (first | rw [c8b0] | (simp only [i64_w, i32_w]; rw [c8b0]) | skip)
    have H' := aK H
    clear H
    go_wp2_with (first | (go_at_call 7; (with_reducible refine (w9_long.calls k _ _ l0 false _ ?side1 ?side2 A6.out).mono ?_); (case side1 => repeat (first | exact (Kd.C_below HR0.out HB.out) | (with_reducible refine Kd.C_alloc ?_ _) | (with_reducible refine Kd.C_drewN ?_ _) | (with_reducible refine Kd.C_drew ?_))); (case side2 => exact HC0.out); rintro e w' ⟨rfl, ⟨nd, rfl⟩⟩; (try first | exact ⟨rfl, _, World.drewN_drewN _ _ _⟩ | exact ⟨rfl, _, Eq.trans (World.drewN_drewN _ _ _) (congrArg (World.drewN _) (Nat.add_assoc _ _ _))⟩)))
    repeat (go_quiet (first | (go_at_call 7; (with_reducible refine (w9_long.calls k _ _ l0 false _ ?side1 ?side2 A6.out).mono ?_); (case side1 => repeat (first | exact (Kd.C_below HR0.out HB.out) | (with_reducible refine Kd.C_alloc ?_ _) | (with_reducible refine Kd.C_drewN ?_ _) | (with_reducible refine Kd.C_drew ?_))); (case side2 => exact HC0.out); rintro e w' ⟨rfl, ⟨nd, rfl⟩⟩; (try first | exact ⟨rfl, _, World.drewN_drewN _ _ _⟩ | exact ⟨rfl, _, Eq.trans (World.drewN_drewN _ _ _) (congrArg (World.drewN _) (Nat.add_assoc _ _ _))⟩))); try go_wp2_with (first | (go_at_call 7; (with_reducible refine (w9_long.calls k _ _ l0 false _ ?side1 ?side2 A6.out).mono ?_); (case side1 => repeat (first | exact (Kd.C_below HR0.out HB.out) | (with_reducible refine Kd.C_alloc ?_ _) | (with_reducible refine Kd.C_drewN ?_ _) | (with_reducible refine Kd.C_drew ?_))); (case side2 => exact HC0.out); rintro e w' ⟨rfl, ⟨nd, rfl⟩⟩; (try first | exact ⟨rfl, _, World.drewN_drewN _ _ _⟩ | exact ⟨rfl, _, Eq.trans (World.drewN_drewN _ _ _) (congrArg (World.drewN _) (Nat.add_assoc _ _ _))⟩))))
    go_meet
    case rel => exact ⟨_, (decide ((l3.length : Int) > 40)), (by first | rfl | (simp; done) | (simp [*]; done)), H', ⟨by first | omega | exact Nat.le_refl _⟩, ⟨by repeat (first | (with_reducible first | exact HB.out | apply bAl | apply pbD | apply bD1) | exact HB.out)⟩⟩
 case rest =>
  clear HC5
  try clear c2
  try clear p2
  try clear c3
  try clear c5
  try clear c7
  try clear c8
  try clear c8b0
  try clear c8b1
  obtain ⟨kq, x30_4, rfl, HA, HJ4, HB⟩ := hcut
  cases kq with
  | zero => exact absurd HA.out (by simp [w9_CheckOne.j0])
  | succ kj4 =>
   have H := HA.out
   clear HA
   simp only [w9_CheckOne.j0] at H
   by_cases c9 : x30_4 = true
   ·
    subst c9
    have H1 : ((w9_awake.f kj4).bind fun t404 => (some t404)) = some r := by rw [if_pos rfl] at H; exact H
    clear H
    have H := H1
    clear H1
    replace H := oB H
    obtain ⟨t404, A100, H⟩ := H
    replace H : (some t404) = some r := H
    have A10 := aK A100
    clear A100
    obtain rfl := oI H
    go_wp2_with (first | (go_at_call 8; (with_reducible refine (w9_awake.calls kj4  t404 _ A10.out).mono ?_); rintro e w11 ⟨rfl, hb⟩; have n0_ := aK (bSp (by repeat (first | (with_reducible first | exact HB.out | apply bAl | apply pbD | apply bD1) | exact HB.out)) hb); clear HB; have HB := n0_; clear n0_; (try clear hb); (try clear hb2); (try clear hk); (try clear hi)))
    repeat (go_quiet (first | (go_at_call 8; (with_reducible refine (w9_awake.calls kj4  t404 _ A10.out).mono ?_); rintro e w11 ⟨rfl, hb⟩; have n0_ := aK (bSp (by repeat (first | (with_reducible first | exact HB.out | apply bAl | apply pbD | apply bD1) | exact HB.out)) hb); clear HB; have HB := n0_; clear n0_; (try clear hb); (try clear hb2); (try clear hk); (try clear hi))); try go_wp2_with (first | (go_at_call 8; (with_reducible refine (w9_awake.calls kj4  t404 _ A10.out).mono ?_); rintro e w11 ⟨rfl, hb⟩; have n0_ := aK (bSp (by repeat (first | (with_reducible first | exact HB.out | apply bAl | apply pbD | apply bD1) | exact HB.out)) hb); clear HB; have HB := n0_; clear n0_; (try clear hb); (try clear hb2); (try clear hk); (try clear hi))))
    go_ret
    exact ⟨by first | rfl | (simp [eWn, eWs] <;> rfl) | (simp [*, eWn, eWs] <;> rfl), by repeat (first | (with_reducible first | exact HB.out | apply bAl | apply pbD | apply bD1) | exact HB.out)⟩
   ·
    replace c9 := Bool.eq_false_iff.mpr c9
    subst c9
    have H1 : ((check_Table.f l0).bind fun bt405 => (if bt405.2 = 0 then ((w9_chosen.f kj4 l0 (wrap64 (1 + (Int.tmod (Go.bits .and .i64 a1 255) 3))) l2).bind fun bt408 => ((w9_chosen.f kj4 l0 (wrap64 (1 + (Int.tmod (Go.bits .and .i64 a1 255) 3))) l3).bind fun bt412 => (if (bt408.1.length : Int) > (bt412.1.length : Int) then (w9_CheckOne.j1 kj4 bt412.1 bt412.2 bt408.1 bt408.2) else (w9_CheckOne.j1 kj4 bt408.1 bt408.2 bt412.1 bt412.2)))) else ((w9_awake.f kj4).bind fun t407 => (some t407)))) = some r := by rw [if_neg (show ¬ (false = true) by decide)] at H; exact H
    clear H
    have H := H1
    clear H1
    replace H := oB H
    obtain ⟨⟨t405, t406⟩, A120, H⟩ := H
    try dsimp only at H
    have A12 := aK A120
    clear A120
    by_cases c13 : t406 = 0
    ·
     rw [if_pos c13] at H
     have c13b0 : (t406 == 0) = true := beq_iff_eq.mpr c13
     have c13b1 : (t406 != 0) = false := bne_eq_false_iff_eq.mpr c13
     clear c13
     replace H := oB H
     obtain ⟨⟨t408, t409⟩, A140, H⟩ := H
     try dsimp only at H
     have A14 := aK A140
     clear A140
     replace H := oB H
     obtain ⟨⟨t412, t413⟩, A150, H⟩ := H
     try dsimp only at H
     have A15 := aK A150
     clear A150
     have HC16 := aK H
     clear H
     go_upto_if 62 with (first | (go_at_call 15; (with_reducible refine (check_Table.calls _ _ l0 t405 t406 _ ?side1 ?side2 A12.out).mono ?_); (case side1 => repeat (first | exact (Kd.C_below HR0.out HB.out) | (with_reducible refine Kd.C_alloc ?_ _) | (with_reducible refine Kd.C_drewN ?_ _) | (with_reducible refine Kd.C_drew ?_))); (case side2 => exact HC0.out); rintro e w17 ⟨rfl, hb⟩; have n0_ := aK (bSp (by repeat (first | (with_reducible first | exact HB.out | apply bAl | apply pbD | apply bD1) | exact HB.out)) hb); clear HB; have HB := n0_; clear n0_; (try clear hb); (try clear hb2); (try clear hk); (try clear hi)) | (go_at_call 20; (with_reducible refine (w9_chosen.calls kj4 _ _ l0 (wrap64 (1 + (Int.tmod (Go.bits .and .i64 a1 255) 3))) _ _ l2 t408 t409 _ ?side1 ?side2 ?side3 ?side4 A14.out).mono ?_); (case side1 => repeat (first | exact (Kd.C_below HR0.out HB.out) | (with_reducible refine Kd.C_alloc ?_ _) | (with_reducible refine Kd.C_drewN ?_ _) | (with_reducible refine Kd.C_drew ?_))); (case side2 => exact HC0.out); (case side3 => repeat (first | exact (Kd.C_below HR2.out HB.out) | (with_reducible refine Kd.C_alloc ?_ _) | (with_reducible refine Kd.C_drewN ?_ _) | (with_reducible refine Kd.C_drew ?_))); (case side4 => exact HC2.out); rintro e w18 ⟨v410, rfl, ho0, hb⟩; have n0_ := aK (Kd.R_lower ho0 (bSz (by repeat (first | (with_reducible first | exact HB.out | apply bAl | apply pbD | apply bD1) | exact HB.out)))); have n1_ := aK (bSp (by repeat (first | (with_reducible first | exact HB.out | apply bAl | apply pbD | apply bD1) | exact HB.out)) hb); clear HB; have HO411 := n0_; have HB := n1_; clear n0_ n1_; (try clear hb); (try clear hb2); (try clear hk); (try clear hi); (try clear ho0)) | (go_at_call 20; (with_reducible refine (w9_chosen.calls kj4 _ _ l0 (wrap64 (1 + (Int.tmod (Go.bits .and .i64 a1 255) 3))) _ _ l3 t412 t413 _ ?side1 ?side2 ?side3 ?side4 A15.out).mono ?_); (case side1 => repeat (first | exact (Kd.C_below HR0.out HB.out) | (with_reducible refine Kd.C_alloc ?_ _) | (with_reducible refine Kd.C_drewN ?_ _) | (with_reducible refine Kd.C_drew ?_))); (case side2 => exact HC0.out); (case side3 => repeat (first | exact (Kd.C_below HR3.out HB.out) | (with_reducible refine Kd.C_alloc ?_ _) | (with_reducible refine Kd.C_drewN ?_ _) | (with_reducible refine Kd.C_drew ?_))); (case side4 => exact HC3.out); rintro e w19 ⟨v414, rfl, ho0, hb⟩; have n0_ := aK (Kd.R_elder' (by (with_reducible repeat (first | apply Kd.R_alloc | apply Kd.R_drewN | apply Kd.R_drew)); exact HO411.out) (Kd.R_base ho0) hb); have n1_ := aK (Kd.R_lower (Kd.R_new' ho0 (Kd.R_lt (by (with_reducible repeat (first | apply Kd.R_alloc | apply Kd.R_drewN | apply Kd.R_drew)); exact HO411.out))) (bSz (by repeat (first | (with_reducible first | exact HB.out | apply bAl | apply pbD | apply bD1) | exact HB.out)))); have n2_ := aK (bSp (by repeat (first | (with_reducible first | exact HB.out | apply bAl | apply pbD | apply bD1) | exact HB.out)) hb); clear HO411; clear HB; have HO411 := n0_; have HO415 := n1_; have HB := n2_; clear n0_ n1_ n2_; (try clear hb); (try clear hb2); (try clear hk); (try clear hi); (try clear ho0); obtain ⟨Ao20, co20, eo20⟩ := Kd.R_slice HO411.out; subst eo20; obtain ⟨Ao21, co21, eo21⟩ := Kd.R_slice HO415.out; subst eo21))
     repeat (go_quiet (first | (go_at_call 15; (with_reducible refine (check_Table.calls _ _ l0 t405 t406 _ ?side1 ?side2 A12.out).mono ?_); (case side1 => repeat (first | exact (Kd.C_below HR0.out HB.out) | (with_reducible refine Kd.C_alloc ?_ _) | (with_reducible refine Kd.C_drewN ?_ _) | (with_reducible refine Kd.C_drew ?_))); (case side2 => exact HC0.out); rintro e w17 ⟨rfl, hb⟩; have n0_ := aK (bSp (by repeat (first | (with_reducible first | exact HB.out | apply bAl | apply pbD | apply bD1) | exact HB.out)) hb); clear HB; have HB := n0_; clear n0_; (try clear hb); (try clear hb2); (try clear hk); (try clear hi)) | (go_at_call 20; (with_reducible refine (w9_chosen.calls kj4 _ _ l0 (wrap64 (1 + (Int.tmod (Go.bits .and .i64 a1 255) 3))) _ _ l2 t408 t409 _ ?side1 ?side2 ?side3 ?side4 A14.out).mono ?_); (case side1 => repeat (first | exact (Kd.C_below HR0.out HB.out) | (with_reducible refine Kd.C_alloc ?_ _) | (with_reducible refine Kd.C_drewN ?_ _) | (with_reducible refine Kd.C_drew ?_))); (case side2 => exact HC0.out); (case side3 => repeat (first | exact (Kd.C_below HR2.out HB.out) | (with_reducible refine Kd.C_alloc ?_ _) | (with_reducible refine Kd.C_drewN ?_ _) | (with_reducible refine Kd.C_drew ?_))); (case side4 => exact HC2.out); rintro e w18 ⟨v410, rfl, ho0, hb⟩; have n0_ := aK (Kd.R_lower ho0 (bSz (by repeat (first | (with_reducible first | exact HB.out | apply bAl | apply pbD | apply bD1) | exact HB.out)))); have n1_ := aK (bSp (by repeat (first | (with_reducible first | exact HB.out | apply bAl | apply pbD | apply bD1) | exact HB.out)) hb); clear HB; have HO411 := n0_; have HB := n1_; clear n0_ n1_; (try clear hb); (try clear hb2); (try clear hk); (try clear hi); (try clear ho0)) | (go_at_call 20; (with_reducible refine (w9_chosen.calls kj4 _ _ l0 (wrap64 (1 + (Int.tmod (Go.bits .and .i64 a1 255) 3))) _ _ l3 t412 t413 _ ?side1 ?side2 ?side3 ?side4 A15.out).mono ?_); (case side1 => repeat (first | exact (Kd.C_below HR0.out HB.out) | (with_reducible refine Kd.C_alloc ?_ _) | (with_reducible refine Kd.C_drewN ?_ _) | (with_reducible refine Kd.C_drew ?_))); (case side2 => exact HC0.out); (case side3 => repeat (first | exact (Kd.C_below HR3.out HB.out) | (with_reducible refine Kd.C_alloc ?_ _) | (with_reducible refine Kd.C_drewN ?_ _) | (with_reducible refine Kd.C_drew ?_))); (case side4 => exact HC3.out); rintro e w19 ⟨v414, rfl, ho0, hb⟩; have n0_ := aK (Kd.R_elder' (by (with_reducible repeat (first | apply Kd.R_alloc | apply Kd.R_drewN | apply Kd.R_drew)); exact HO411.out) (Kd.R_base ho0) hb); have n1_ := aK (Kd.R_lower (Kd.R_new' ho0 (Kd.R_lt (by (with_reducible repeat (first | apply Kd.R_alloc | apply Kd.R_drewN | apply Kd.R_drew)); exact HO411.out))) (bSz (by repeat (first | (with_reducible first | exact HB.out | apply bAl | apply pbD | apply bD1) | exact HB.out)))); have n2_ := aK (bSp (by repeat (first | (with_reducible first | exact HB.out | apply bAl | apply pbD | apply bD1) | exact HB.out)) hb); clear HO411; clear HB; have HO411 := n0_; have HO415 := n1_; have HB := n2_; clear n0_ n1_ n2_; (try clear hb); (try clear hb2); (try clear hk); (try clear hi); (try clear ho0); obtain ⟨Ao20, co20, eo20⟩ := Kd.R_slice HO411.out; subst eo20; obtain ⟨Ao21, co21, eo21⟩ := Kd.R_slice HO415.out; subst eo21)); go_upto_if 62 with (first | (go_at_call 15; (with_reducible refine (check_Table.calls _ _ l0 t405 t406 _ ?side1 ?side2 A12.out).mono ?_); (case side1 => repeat (first | exact (Kd.C_below HR0.out HB.out) | (with_reducible refine Kd.C_alloc ?_ _) | (with_reducible refine Kd.C_drewN ?_ _) | (with_reducible refine Kd.C_drew ?_))); (case side2 => exact HC0.out); rintro e w17 ⟨rfl, hb⟩; have n0_ := aK (bSp (by repeat (first | (with_reducible first | exact HB.out | apply bAl | apply pbD | apply bD1) | exact HB.out)) hb); clear HB; have HB := n0_; clear n0_; (try clear hb); (try clear hb2); (try clear hk); (try clear hi)) | (go_at_call 20; (with_reducible refine (w9_chosen.calls kj4 _ _ l0 (wrap64 (1 + (Int.tmod (Go.bits .and .i64 a1 255) 3))) _ _ l2 t408 t409 _ ?side1 ?side2 ?side3 ?side4 A14.out).mono ?_); (case side1 => repeat (first | exact (Kd.C_below HR0.out HB.out) | (with_reducible refine Kd.C_alloc ?_ _) | (with_reducible refine Kd.C_drewN ?_ _) | (with_reducible refine Kd.C_drew ?_))); (case side2 => exact HC0.out); (case side3 => repeat (first | exact (Kd.C_below HR2.out HB.out) | (with_reducible refine Kd.C_alloc ?_ _) | (with_reducible refine Kd.C_drewN ?_ _) | (with_reducible refine Kd.C_drew ?_))); (case side4 => exact HC2.out); rintro e w18 ⟨v410, rfl, ho0, hb⟩; have n0_ := aK (Kd.R_lower ho0 (bSz (by repeat (first | (with_reducible first | exact HB.out | apply bAl | apply pbD | apply bD1) | exact HB.out)))); have n1_ := aK (bSp (by repeat (first | (with_reducible first | exact HB.out | apply bAl | apply pbD | apply bD1) | exact HB.out)) hb); clear HB; have HO411 := n0_; have HB := n1_; clear n0_ n1_; (try clear hb); (try clear hb2); (try clear hk); (try clear hi); (try clear ho0)) | (go_at_call 20; (with_reducible refine (w9_chosen.calls kj4 _ _ l0 (wrap64 (1 + (Int.tmod (Go.bits .and .i64 a1 255) 3))) _ _ l3 t412 t413 _ ?side1 ?side2 ?side3 ?side4 A15.out).mono ?_); (case side1 => repeat (first | exact (Kd.C_below HR0.out HB.out) | (with_reducible refine Kd.C_alloc ?_ _) | (with_reducible refine Kd.C_drewN ?_ _) | (with_reducible refine Kd.C_drew ?_))); (case side2 => exact HC0.out); (case side3 => repeat (first | exact (Kd.C_below HR3.out HB.out) | (with_reducible refine Kd.C_alloc ?_ _) | (with_reducible refine Kd.C_drewN ?_ _) | (with_reducible refine Kd.C_drew ?_))); (case side4 => exact HC3.out); rintro e w19 ⟨v414, rfl, ho0, hb⟩; have n0_ := aK (Kd.R_elder' (by (with_reducible repeat (first | apply Kd.R_alloc | apply Kd.R_drewN | apply Kd.R_drew)); exact HO411.out) (Kd.R_base ho0) hb); have n1_ := aK (Kd.R_lower (Kd.R_new' ho0 (Kd.R_lt (by (with_reducible repeat (first | apply Kd.R_alloc | apply Kd.R_drewN | apply Kd.R_drew)); exact HO411.out))) (bSz (by repeat (first | (with_reducible first | exact HB.out | apply bAl | apply pbD | apply bD1) | exact HB.out)))); have n2_ := aK (bSp (by repeat (first | (with_reducible first | exact HB.out | apply bAl | apply pbD | apply bD1) | exact HB.out)) hb); clear HO411; clear HB; have HO411 := n0_; have HO415 := n1_; have HB := n2_; clear n0_ n1_ n2_; (try clear hb); (try clear hb2); (try clear hk); (try clear hi); (try clear ho0); obtain ⟨Ao20, co20, eo20⟩ := Kd.R_slice HO411.out; subst eo20; obtain ⟨Ao21, co21, eo21⟩ := Kd.R_slice HO415.out; subst eo21)))
     (try simp only [Act.put, qSa, qS0, qS1])
     go_cut [11, 12, 13, 14] (fun v11 v12 v13 v14 wc => ∃ (kq : Nat) (x11_15 : List (S23)) (x12_15 : ByteArray) (x13_15 : List (S23)) (x14_15 : ByteArray), v12 = .string x12_15 ∧ v14 = .string x14_15 ∧ Aside0 (w9_CheckOne.j1 kq x11_15 x12_15 x13_15 x14_15 = some r) ∧ Aside0 (kq ≤ kj4) ∧ Aside0 (Kd.R k23 23 wc w.heap.size (fun k_ => some k_ ≠ (v13 : Value).ownBlock) v11 x11_15) ∧ Aside0 (Kd.R k23 23 wc w.heap.size (fun k_ => some k_ ≠ (v11 : Value).ownBlock) v13 x13_15) ∧ Aside0 (Below w.heap.size w wc))
     case first =>
      have H := HC16.out
      clear HC16
      by_cases c22 : (t408.length : Int) > (t412.length : Int)
      ·
       rw [if_pos c22] at H
       have c22b0 : decide ((t412.length : Int) < (t408.length : Int)) = true := decide_eq_true c22
       have c22b1 : decide (t412.length < t408.length) = true := decide_eq_true (Int.ofNat_lt.mp c22)
       clear c22
       (first | rw [c22b0] | (simp only [i64_w, i32_w]; rw [c22b0]) | skip)
       have H' := aK H
       clear H
       go_wp2
       all_goals (try (exfalso; have hq9 := odT c22b1; omega))
       all_goals (try (exfalso; have hq9 := odT c22b1; omega))
       repeat (go_quiet (fail); try go_wp2)
       go_meet
       case rel => exact ⟨_, (t412), (t413), (t408), (t409), (by first | rfl | (simp; done) | (simp [*]; done)), (by first | rfl | (simp; done) | (simp [*]; done)), H', ⟨by have := HJ4.out; first | omega | exact Nat.le_refl _⟩, ⟨by (with_reducible repeat (first | apply Kd.R_alloc | apply Kd.R_drewN | apply Kd.R_drew)); exact Kd.R_mono HO415.out (fun _ hk => hk.2)⟩, ⟨by (with_reducible repeat (first | apply Kd.R_alloc | apply Kd.R_drewN | apply Kd.R_drew)); exact Kd.R_mono HO411.out (fun _ hk => hk.2)⟩, ⟨by repeat (first | (with_reducible first | exact HB.out | apply bAl | apply pbD | apply bD1) | exact HB.out)⟩⟩
      ·
       rw [if_neg c22] at H
       have c22b0 : decide ((t412.length : Int) < (t408.length : Int)) = false := decide_eq_false c22
       have c22b1 : decide (t412.length < t408.length) = false := decide_eq_false (fun h => c22 (Int.ofNat_lt.mpr h))
       clear c22
       (first | rw [c22b0] | (simp only [i64_w, i32_w]; rw [c22b0]) | skip)
       have H' := aK H
       clear H
       go_wp2
       all_goals (try (exfalso; have hq9 := of_decide_eq_false c22b1; omega))
       all_goals (try (exfalso; have hq9 := of_decide_eq_false c22b1; omega))
       repeat (go_quiet (fail); try go_wp2)
       go_meet
       case rel => exact ⟨_, (t408), (t409), (t412), (t413), (by first | rfl | (simp; done) | (simp [*]; done)), (by first | rfl | (simp; done) | (simp [*]; done)), H', ⟨by have := HJ4.out; first | omega | exact Nat.le_refl _⟩, ⟨by (with_reducible repeat (first | apply Kd.R_alloc | apply Kd.R_drewN | apply Kd.R_drew)); exact Kd.R_mono HO411.out (fun _ hk => hk.2)⟩, ⟨by (with_reducible repeat (first | apply Kd.R_alloc | apply Kd.R_drewN | apply Kd.R_drew)); exact Kd.R_mono HO415.out (fun _ hk => hk.2)⟩, ⟨by repeat (first | (with_reducible first | exact HB.out | apply bAl | apply pbD | apply bD1) | exact HB.out)⟩⟩
     case rest =>
      clear HC16
      try clear c1
      try clear c2
      try clear p2
      try clear c3
      try clear c5
      try clear p6
      try clear c7
      try clear c8
      try clear c8b0
      try clear c8b1
      try clear c9
      try clear c13
      try clear c13b0
      try clear c13b1
      try clear c22
      try clear c22b0
      try clear c22b1
      try clear p2
      obtain ⟨kq, x11_15, x12_15, x13_15, x14_15, rfl, rfl, HA, HJ15, HO_11, HO_13, HB⟩ := hcut
      cases kq with
      | zero => exact absurd HA.out (by simp [w9_CheckOne.j1])
      | succ kj15 =>
       have H := HA.out
       clear HA
       simp only [w9_CheckOne.j1] at H
       have H' := aK H
       clear H
       go_wp2
       repeat (go_quiet (fail); try go_wp2)
       go_loopg [15, 16] kj15 (fun kq v15 v16 w' => ∃ (x15_3 : Bool) (x16_3 : Int), v15 = .bool x15_3 ∧ v16 = .int .i64 x16_3 ∧ Aside0 (w9_CheckOne.l0 kq x11_15 x12_15 x13_15 x14_15 x15_3 x16_3 = some r) ∧ Aside0 (kq ≤ kj15) ∧ Aside0 (Kd.R k23 23 w' w.heap.size (fun k_ => some k_ ≠ (u13 : Value).ownBlock) u11 x11_15) ∧ Aside0 (Kd.R k23 23 w' w.heap.size (fun k_ => some k_ ≠ (u11 : Value).ownBlock) u13 x13_15) ∧ Aside0 (Below w.heap.size w w'))
       case atStart => exact ⟨(true), (0), (by first | rfl | (simp; done) | (simp [*]; done)), (by first | rfl | (simp; done) | (simp [*]; done)), H', ⟨Nat.le_refl _⟩, ⟨by (with_reducible repeat (first | apply Kd.R_alloc | apply Kd.R_drewN | apply Kd.R_drew)); exact HO_11.out⟩, ⟨by (with_reducible repeat (first | apply Kd.R_alloc | apply Kd.R_drewN | apply Kd.R_drew)); exact HO_13.out⟩, ⟨by repeat (first | (with_reducible first | exact HB.out | apply bAl | apply pbD | apply bD1) | exact HB.out)⟩⟩
       case round =>
        clear H'
        try clear c1
        try clear c2
        try clear p2
        try clear c3
        try clear c5
        try clear p6
        try clear c7
        try clear c8
        try clear c8b0
        try clear c8b1
        try clear c9
        try clear c13
        try clear c13b0
        try clear c13b1
        try clear c22
        try clear c22b0
        try clear c22b1
        try clear p2
        try clear p6
        obtain ⟨x15_3, x16_3, rfl, rfl, HA, HK3, HO_11, HO_13, HB⟩ := hrel
        cases gk with
        | zero => exact absurd HA.out (by simp [w9_CheckOne.l0])
        | succ k3 =>
         have H := HA.out
         clear HA
         simp only [w9_CheckOne.l0] at H
         by_cases c23 : x16_3 < (x11_15.length : Int)
         ·
          rw [if_pos c23] at H
          have c23b0 : decide (x16_3 < (x11_15.length : Int)) = true := decide_eq_true c23
          clear c23
          by_cases c24 : x15_3 = true
          ·
           subst c24
           have H1 : (if 0 ≤ x16_3 then (if x16_3 < (x13_15.length : Int) then (w9_CheckOne.l0 k3 x11_15 x12_15 x13_15 x14_15 (((rd_T23 x11_15 x16_3).f0) == ((rd_T23 x13_15 x16_3).f0) && ((((rd_T23 x11_15 x16_3).f1).toList) == (((rd_T23 x13_15 x16_3).f1).toList) && ((((rd_T23 x11_15 x16_3).f2).toList) == (((rd_T23 x13_15 x16_3).f2).toList) && (((rd_T23 x11_15 x16_3).f3) == ((rd_T23 x13_15 x16_3).f3) && (((rd_T23 x11_15 x16_3).f4) == ((rd_T23 x13_15 x16_3).f4)))))) (wrap64 (x16_3 + 1))) else (none)) else (none)) = some r := by rw [if_pos rfl] at H; exact H
           clear H
           have H := H1
           clear H1
           by_cases c25 : 0 ≤ x16_3
           ·
            rw [if_pos c25] at H
            have c25b0 : decide (0 ≤ x16_3) = true := decide_eq_true c25
            clear c25
            by_cases c26 : x16_3 < (x13_15.length : Int)
            ·
             rw [if_pos c26] at H
             have c26b0 : decide (x16_3 < (x13_15.length : Int)) = true := decide_eq_true c26
             clear c26
             have H' := aK H
             clear H
             obtain ⟨Ao27, co27, eo27⟩ := Kd.R_slice HO_11.out
             subst eo27
             have p416 : 0 ≤ (x16_3 : Int) := odT (by first | (with_reducible assumption) | assumption)
             have q416 : x16_3 < (x11_15.length : Int) := odT (by first | (with_reducible assumption) | assumption)
             obtain ⟨ad416, e416, hx416_0, hx416_1, hx416_2, hx416_3, hx416_4⟩ := at_T23 (Kd.R_reads' HO_11.out).2.2 x16_3 p416 q416
             cases e416
             replace p416 := eq_true p416
             replace q416 := eq_true q416
             obtain ⟨Ao28, co28, eo28⟩ := Kd.R_slice HO_13.out
             subst eo28
             have p417 : 0 ≤ (x16_3 : Int) := odT (by first | (with_reducible assumption) | assumption)
             have q417 : x16_3 < (x13_15.length : Int) := odT (by first | (with_reducible assumption) | assumption)
             obtain ⟨ad417, e417, hx417_0, hx417_1, hx417_2, hx417_3, hx417_4⟩ := at_T23 (Kd.R_reads' HO_13.out).2.2 x16_3 p417 q417
             cases e417
             replace p417 := eq_true p417
             replace q417 := eq_true q417
             go_wp2
             repeat (go_quiet (fail); try go_wp2)
             go_roundg k3
             case measure => have := HJ4.out; have := HJ15.out; have := HK3.out; omega
             case rel => exact ⟨((((rd_T23 x11_15 x16_3).f0) == ((rd_T23 x13_15 x16_3).f0) && ((((rd_T23 x11_15 x16_3).f1).toList) == (((rd_T23 x13_15 x16_3).f1).toList) && ((((rd_T23 x11_15 x16_3).f2).toList) == (((rd_T23 x13_15 x16_3).f2).toList) && (((rd_T23 x11_15 x16_3).f3) == ((rd_T23 x13_15 x16_3).f3) && (((rd_T23 x11_15 x16_3).f4) == ((rd_T23 x13_15 x16_3).f4))))))), (wrap64 (x16_3 + 1)), (by first | rfl | (simp; done) | (simp [*]; done)), (by first | rfl | (simp; done) | (simp [*]; done)), H', ⟨by have := HJ4.out; have := HJ15.out; have := HK3.out; omega⟩, ⟨by (with_reducible repeat (first | apply Kd.R_alloc | apply Kd.R_drewN | apply Kd.R_drew)); exact HO_11.out⟩, ⟨by (with_reducible repeat (first | apply Kd.R_alloc | apply Kd.R_drewN | apply Kd.R_drew)); exact HO_13.out⟩, ⟨by repeat (first | (with_reducible first | exact HB.out | apply bAl | apply pbD | apply bD1) | exact HB.out)⟩⟩
            ·
             rw [if_neg c26] at H
             exact absurd H (by simp)
           ·
            rw [if_neg c25] at H
            exact absurd H (by simp)
          ·
           replace c24 := Bool.eq_false_iff.mpr c24
           subst c24
           have H1 : (w9_CheckOne.l0 k3 x11_15 x12_15 x13_15 x14_15 false (wrap64 (x16_3 + 1))) = some r := by rw [if_neg (show ¬ (false = true) by decide)] at H; exact H
           clear H
           have H := H1
           clear H1
           have H' := aK H
           clear H
           obtain ⟨Ao29, co29, eo29⟩ := Kd.R_slice HO_11.out
           subst eo29
           go_wp2
           repeat (go_quiet (fail); try go_wp2)
           go_roundg k3
           case measure => have := HJ4.out; have := HJ15.out; have := HK3.out; omega
           case rel => exact ⟨(false), (wrap64 (x16_3 + 1)), (by first | rfl | (simp; done) | (simp [*]; done)), (by first | rfl | (simp; done) | (simp [*]; done)), H', ⟨by have := HJ4.out; have := HJ15.out; have := HK3.out; omega⟩, ⟨by (with_reducible repeat (first | apply Kd.R_alloc | apply Kd.R_drewN | apply Kd.R_drew)); exact HO_11.out⟩, ⟨by (with_reducible repeat (first | apply Kd.R_alloc | apply Kd.R_drewN | apply Kd.R_drew)); exact HO_13.out⟩, ⟨by repeat (first | (with_reducible first | exact HB.out | apply bAl | apply pbD | apply bD1) | exact HB.out)⟩⟩
         ·
          rw [if_neg c23] at H
          have c23b0 : decide (x16_3 < (x11_15.length : Int)) = false := decide_eq_false c23
          clear c23
          by_cases c30 : (x12_15.size : Int) ≤ (x14_15.size : Int)
          ·
           rw [if_pos c30] at H
           have c30b0 : decide ((x12_15.size : Int) ≤ (x14_15.size : Int)) = true := decide_eq_true c30
           have c30b1 : decide (x12_15.size ≤ x14_15.size) = true := decide_eq_true (Int.ofNat_le.mp c30)
           clear c30
           by_cases c31 : 0 ≤ (x12_15.size : Int)
           ·
            rw [if_pos c31] at H
            have c31b0 := eq_true c31
            have c31b1 : decide (0 ≤ (x12_15.size : Int)) = true := decide_eq_true c31
            clear c31
            have c32b0 := eq_true (odT (by first | (with_reducible assumption) | assumption) : (x12_15.size : Int) ≤ (x14_15.size : Int))
            by_cases c33 : (x14_15.size : Int) ≤ (x12_15.size : Int)
            ·
             rw [if_pos c33] at H
             have c33b0 : decide ((x14_15.size : Int) ≤ (x12_15.size : Int)) = true := decide_eq_true c33
             have c33b1 : decide (x14_15.size ≤ x12_15.size) = true := decide_eq_true (Int.ofNat_le.mp c33)
             clear c33
             by_cases c34 : 0 ≤ (x14_15.size : Int)
             ·
              rw [if_pos c34] at H
              have c34b0 := eq_true c34
              have c34b1 : decide (0 ≤ (x14_15.size : Int)) = true := decide_eq_true c34
              clear c34
              have c35b0 := eq_true (odT (by first | (with_reducible assumption) | assumption) : (x14_15.size : Int) ≤ (x12_15.size : Int))
              by_cases c36 : (((x14_15.extract 0 ((x12_15.size : Int) : Int).toNat).toList == x12_15.toList) == x15_3) = true
              ·
               rw [if_pos c36] at H
               have c36b0 : (((x14_15.extract 0 ((x12_15.size : Int) : Int).toNat).toList == x12_15.toList) == x15_3) = true := c36
               (try (have c36b1 : decide (((x14_15.extract 0 ((x12_15.size : Int) : Int).toNat).toList == x12_15.toList) = x15_3) = true := by simpa using c36))
               (try (have c36b2 : (((x14_15.extract 0 ((x12_15.size : Int) : Int).toNat).toList == x12_15.toList) == x15_3) = true := by simpa using c36))
               clear c36
               by_cases c37 : ((x12_15.extract 0 ((x14_15.size : Int) : Int).toNat).toList = x14_15.toList)
               ·
                rw [if_pos c37] at H
                have c37b0 : ((x12_15.extract 0 ((x14_15.size : Int) : Int).toNat).toList == x14_15.toList) = true := beq_iff_eq.mpr c37
                have c37b1 : ((x12_15.extract 0 ((x14_15.size : Int) : Int).toNat).toList != x14_15.toList) = false := bne_eq_false_iff_eq.mpr c37
                clear c37
                by_cases c38 : x15_3 = true
                ·
                 subst c38
                 have H1 : (if ((x12_15.toList == x14_15.toList) == ((x11_15.length : Int) == (x13_15.length : Int))) = true then ((w9_awake.f k3).bind fun t418 => (some t418)) else (some false)) = some r := by rw [if_pos rfl] at H; exact H
                 clear H
                 have H := H1
                 clear H1
                 by_cases c39 : ((x12_15.toList == x14_15.toList) == ((x11_15.length : Int) == (x13_15.length : Int))) = true
                 ·
                  rw [if_pos c39] at H
                  have c39b0 : ((x12_15.toList == x14_15.toList) == ((x11_15.length : Int) == (x13_15.length : Int))) = true := c39
                  (try (have c39b1 : decide ((x12_15.toList == x14_15.toList) = ((x11_15.length : Int) == (x13_15.length : Int))) = true := by simpa using c39))
                  (try (have c39b2 : ((x12_15.toList == x14_15.toList) == ((x11_15.length : Int) == (x13_15.length : Int))) = true := by simpa using c39))
                  clear c39
                  replace H := oB H
                  obtain ⟨t418, A400, H⟩ := H
                  replace H : (some t418) = some r := H
                  have A40 := aK A400
                  clear A400
                  obtain rfl := oI H
                  obtain ⟨Ao41, co41, eo41⟩ := Kd.R_slice HO_11.out
                  subst eo41
                  obtain ⟨Ao42, co42, eo42⟩ := Kd.R_slice HO_13.out
                  subst eo42
                  all_goals (try (exfalso; first | (simp at c36b0; done) | (simp at c36b0; contradiction) | (simp at c54b0; done) | (simp at c54b0; contradiction) | (simp at c68b0; done) | (simp at c68b0; contradiction) | (simp at c86b0; done) | (simp at c86b0; contradiction)))
                  all_goals (go_wp2_with (first | (go_at_call 8; (with_reducible refine (w9_awake.calls k3  t418 _ A40.out).mono ?_); rintro e w43 ⟨rfl, hb⟩; have n0_ := aK (Kd.R_below (by (with_reducible repeat (first | apply Kd.R_alloc | apply Kd.R_drewN | apply Kd.R_drew)); exact HO_11.out) hb); have n1_ := aK (Kd.R_below (by (with_reducible repeat (first | apply Kd.R_alloc | apply Kd.R_drewN | apply Kd.R_drew)); exact HO_13.out) hb); have n2_ := aK (bSp (by repeat (first | (with_reducible first | exact HB.out | apply bAl | apply pbD | apply bD1) | exact HB.out)) hb); clear HO_11; clear HO_13; clear HB; have HO_11 := n0_; have HO_13 := n1_; have HB := n2_; clear n0_ n1_ n2_; (try clear hb); (try clear hb2); (try clear hk); (try clear hi))))
                  all_goals (try (exfalso; first | (simp at c36b0; done) | (simp at c36b0; contradiction) | (simp at c54b0; done) | (simp at c54b0; contradiction) | (simp at c68b0; done) | (simp at c68b0; contradiction) | (simp at c86b0; done) | (simp at c86b0; contradiction)))
                  all_goals (repeat (go_quiet (first | (go_at_call 8; (with_reducible refine (w9_awake.calls k3  t418 _ A40.out).mono ?_); rintro e w43 ⟨rfl, hb⟩; have n0_ := aK (Kd.R_below (by (with_reducible repeat (first | apply Kd.R_alloc | apply Kd.R_drewN | apply Kd.R_drew)); exact HO_11.out) hb); have n1_ := aK (Kd.R_below (by (with_reducible repeat (first | apply Kd.R_alloc | apply Kd.R_drewN | apply Kd.R_drew)); exact HO_13.out) hb); have n2_ := aK (bSp (by repeat (first | (with_reducible first | exact HB.out | apply bAl | apply pbD | apply bD1) | exact HB.out)) hb); clear HO_11; clear HO_13; clear HB; have HO_11 := n0_; have HO_13 := n1_; have HB := n2_; clear n0_ n1_ n2_; (try clear hb); (try clear hb2); (try clear hk); (try clear hi))); try go_wp2_with (first | (go_at_call 8; (with_reducible refine (w9_awake.calls k3  t418 _ A40.out).mono ?_); rintro e w43 ⟨rfl, hb⟩; have n0_ := aK (Kd.R_below (by (with_reducible repeat (first | apply Kd.R_alloc | apply Kd.R_drewN | apply Kd.R_drew)); exact HO_11.out) hb); have n1_ := aK (Kd.R_below (by (with_reducible repeat (first | apply Kd.R_alloc | apply Kd.R_drewN | apply Kd.R_drew)); exact HO_13.out) hb); have n2_ := aK (bSp (by repeat (first | (with_reducible first | exact HB.out | apply bAl | apply pbD | apply bD1) | exact HB.out)) hb); clear HO_11; clear HO_13; clear HB; have HO_11 := n0_; have HO_13 := n1_; have HB := n2_; clear n0_ n1_ n2_; (try clear hb); (try clear hb2); (try clear hk); (try clear hi)))))
                  all_goals (try (exfalso; first | (simp at c36b0; done) | (simp at c36b0; contradiction) | (simp at c54b0; done) | (simp at c54b0; contradiction) | (simp at c68b0; done) | (simp at c68b0; contradiction) | (simp at c86b0; done) | (simp at c86b0; contradiction)))
                  all_goals go_ret
                  all_goals (exact ⟨by first | rfl | (simp [eWn, eWs] <;> rfl) | (simp [*, eWn, eWs] <;> rfl), by repeat (first | (with_reducible first | exact HB.out | apply bAl | apply pbD | apply bD1) | exact HB.out)⟩)
                 ·
                  rw [if_neg c39] at H
                  have c39b0 : ((x12_15.toList == x14_15.toList) == ((x11_15.length : Int) == (x13_15.length : Int))) = false := by simpa using c39
                  (try (have c39b1 : decide ((x12_15.toList == x14_15.toList) = ((x11_15.length : Int) == (x13_15.length : Int))) = false := by simpa using c39))
                  (try (have c39b2 : ((x12_15.toList == x14_15.toList) == ((x11_15.length : Int) == (x13_15.length : Int))) = false := by simpa using c39))
                  (try (have c39b3 : ¬ ((x12_15.toList == x14_15.toList) = ((x11_15.length : Int) == (x13_15.length : Int))) := by simpa using c39))
                  clear c39
                  exact absurd ((oI H).trans hT.out) (by decide)
                ·
                 replace c38 := Bool.eq_false_iff.mpr c38
                 subst c38
                 have H1 : (some false) = some r := by rw [if_neg (show ¬ (false = true) by decide)] at H; exact H
                 clear H
                 have H := H1
                 clear H1
                 exact absurd ((oI H).trans hT.out) (by decide)
               ·
                rw [if_neg c37] at H
                have c37b0 : ((x12_15.extract 0 ((x14_15.size : Int) : Int).toNat).toList == x14_15.toList) = false := beq_eq_false_iff_ne.mpr c37
                have c37b1 : ((x12_15.extract 0 ((x14_15.size : Int) : Int).toNat).toList != x14_15.toList) = true := bne_iff_ne.mpr c37
                by_cases c44 : x15_3 = true
                ·
                 subst c44
                 have H1 : (if ((x12_15.toList == x14_15.toList) == ((x11_15.length : Int) == (x13_15.length : Int))) = true then ((w9_awake.f k3).bind fun t419 => (some t419)) else (some false)) = some r := by rw [if_pos rfl] at H; exact H
                 clear H
                 have H := H1
                 clear H1
                 by_cases c45 : ((x12_15.toList == x14_15.toList) == ((x11_15.length : Int) == (x13_15.length : Int))) = true
                 ·
                  rw [if_pos c45] at H
                  have c45b0 : ((x12_15.toList == x14_15.toList) == ((x11_15.length : Int) == (x13_15.length : Int))) = true := c45
                  (try (have c45b1 : decide ((x12_15.toList == x14_15.toList) = ((x11_15.length : Int) == (x13_15.length : Int))) = true := by simpa using c45))
                  (try (have c45b2 : ((x12_15.toList == x14_15.toList) == ((x11_15.length : Int) == (x13_15.length : Int))) = true := by simpa using c45))
                  clear c45
                  replace H := oB H
                  obtain ⟨t419, A460, H⟩ := H
                  replace H : (some t419) = some r := H
                  have A46 := aK A460
                  clear A460
                  obtain rfl := oI H
                  obtain ⟨Ao47, co47, eo47⟩ := Kd.R_slice HO_11.out
                  subst eo47
                  obtain ⟨Ao48, co48, eo48⟩ := Kd.R_slice HO_13.out
                  subst eo48
                  all_goals (try (exfalso; first | (simp at c36b0; done) | (simp at c36b0; contradiction) | (simp at c54b0; done) | (simp at c54b0; contradiction) | (simp at c68b0; done) | (simp at c68b0; contradiction) | (simp at c86b0; done) | (simp at c86b0; contradiction)))
                  all_goals (go_wp2_with (first | (go_at_call 8; (with_reducible refine (w9_awake.calls k3  t419 _ A46.out).mono ?_); rintro e w49 ⟨rfl, hb⟩; have n0_ := aK (Kd.R_below (by (with_reducible repeat (first | apply Kd.R_alloc | apply Kd.R_drewN | apply Kd.R_drew)); exact HO_11.out) hb); have n1_ := aK (Kd.R_below (by (with_reducible repeat (first | apply Kd.R_alloc | apply Kd.R_drewN | apply Kd.R_drew)); exact HO_13.out) hb); have n2_ := aK (bSp (by repeat (first | (with_reducible first | exact HB.out | apply bAl | apply pbD | apply bD1) | exact HB.out)) hb); clear HO_11; clear HO_13; clear HB; have HO_11 := n0_; have HO_13 := n1_; have HB := n2_; clear n0_ n1_ n2_; (try clear hb); (try clear hb2); (try clear hk); (try clear hi))))
                  all_goals (try (exfalso; first | (simp at c36b0; done) | (simp at c36b0; contradiction) | (simp at c54b0; done) | (simp at c54b0; contradiction) | (simp at c68b0; done) | (simp at c68b0; contradiction) | (simp at c86b0; done) | (simp at c86b0; contradiction)))
                  all_goals (repeat (go_quiet (first | (go_at_call 8; (with_reducible refine (w9_awake.calls k3  t419 _ A46.out).mono ?_); rintro e w49 ⟨rfl, hb⟩; have n0_ := aK (Kd.R_below (by (with_reducible repeat (first | apply Kd.R_alloc | apply Kd.R_drewN | apply Kd.R_drew)); exact HO_11.out) hb); have n1_ := aK (Kd.R_below (by (with_reducible repeat (first | apply Kd.R_alloc | apply Kd.R_drewN | apply Kd.R_drew)); exact HO_13.out) hb); have n2_ := aK (bSp (by repeat (first | (with_reducible first | exact HB.out | apply bAl | apply pbD | apply bD1) | exact HB.out)) hb); clear HO_11; clear HO_13; clear HB; have HO_11 := n0_; have HO_13 := n1_; have HB := n2_; clear n0_ n1_ n2_; (try clear hb); (try clear hb2); (try clear hk); (try clear hi))); try go_wp2_with (first | (go_at_call 8; (with_reducible refine (w9_awake.calls k3  t419 _ A46.out).mono ?_); rintro e w49 ⟨rfl, hb⟩; have n0_ := aK (Kd.R_below (by (with_reducible repeat (first | apply Kd.R_alloc | apply Kd.R_drewN | apply Kd.R_drew)); exact HO_11.out) hb); have n1_ := aK (Kd.R_below (by (with_reducible repeat (first | apply Kd.R_alloc | apply Kd.R_drewN | apply Kd.R_drew)); exact HO_13.out) hb); have n2_ := aK (bSp (by repeat (first | (with_reducible first | exact HB.out | apply bAl | apply pbD | apply bD1) | exact HB.out)) hb); clear HO_11; clear HO_13; clear HB; have HO_11 := n0_; have HO_13 := n1_; have HB := n2_; clear n0_ n1_ n2_; (try clear hb); (try clear hb2); (try clear hk); (try clear hi)))))
                  all_goals (try (exfalso; first | (simp at c36b0; done) | (simp at c36b0; contradiction) | (simp at c54b0; done) | (simp at c54b0; contradiction) | (simp at c68b0; done) | (simp at c68b0; contradiction) | (simp at c86b0; done) | (simp at c86b0; contradiction)))
                  all_goals go_ret
                  all_goals (exact ⟨by first | rfl | (simp [eWn, eWs] <;> rfl) | (simp [*, eWn, eWs] <;> rfl), by repeat (first | (with_reducible first | exact HB.out | apply bAl | apply pbD | apply bD1) | exact HB.out)⟩)
                 ·
                  rw [if_neg c45] at H
                  have c45b0 : ((x12_15.toList == x14_15.toList) == ((x11_15.length : Int) == (x13_15.length : Int))) = false := by simpa using c45
                  (try (have c45b1 : decide ((x12_15.toList == x14_15.toList) = ((x11_15.length : Int) == (x13_15.length : Int))) = false := by simpa using c45))
                  (try (have c45b2 : ((x12_15.toList == x14_15.toList) == ((x11_15.length : Int) == (x13_15.length : Int))) = false := by simpa using c45))
                  (try (have c45b3 : ¬ ((x12_15.toList == x14_15.toList) = ((x11_15.length : Int) == (x13_15.length : Int))) := by simpa using c45))
                  clear c45
                  exact absurd ((oI H).trans hT.out) (by decide)
                ·
                 replace c44 := Bool.eq_false_iff.mpr c44
                 subst c44
                 have H1 : (if ((x12_15.toList == x14_15.toList) == false) = true then ((w9_awake.f k3).bind fun t420 => (some t420)) else (some false)) = some r := by rw [if_neg (show ¬ (false = true) by decide)] at H; exact H
                 clear H
                 have H := H1
                 clear H1
                 by_cases c50 : ((x12_15.toList == x14_15.toList) == false) = true
                 ·
                  rw [if_pos c50] at H
                  have c50b0 : ((x12_15.toList == x14_15.toList) == false) = true := c50
                  (try (have c50b1 : decide ((x12_15.toList == x14_15.toList) = false) = true := by simpa using c50))
                  (try (have c50b2 : ((x12_15.toList == x14_15.toList) == false) = true := by simpa using c50))
                  clear c50
                  replace H := oB H
                  obtain ⟨t420, A510, H⟩ := H
                  replace H : (some t420) = some r := H
                  have A51 := aK A510
                  clear A510
                  obtain rfl := oI H
                  obtain ⟨Ao52, co52, eo52⟩ := Kd.R_slice HO_11.out
                  subst eo52
                  all_goals (try (exfalso; first | (simp at c36b0; done) | (simp at c36b0; contradiction) | (simp at c54b0; done) | (simp at c54b0; contradiction) | (simp at c68b0; done) | (simp at c68b0; contradiction) | (simp at c86b0; done) | (simp at c86b0; contradiction)))
                  all_goals (go_wp2_with (first | (go_at_call 8; (with_reducible refine (w9_awake.calls k3  t420 _ A51.out).mono ?_); rintro e w53 ⟨rfl, hb⟩; have n0_ := aK (Kd.R_below (by (with_reducible repeat (first | apply Kd.R_alloc | apply Kd.R_drewN | apply Kd.R_drew)); exact HO_11.out) hb); have n1_ := aK (Kd.R_below (by (with_reducible repeat (first | apply Kd.R_alloc | apply Kd.R_drewN | apply Kd.R_drew)); exact HO_13.out) hb); have n2_ := aK (bSp (by repeat (first | (with_reducible first | exact HB.out | apply bAl | apply pbD | apply bD1) | exact HB.out)) hb); clear HO_11; clear HO_13; clear HB; have HO_11 := n0_; have HO_13 := n1_; have HB := n2_; clear n0_ n1_ n2_; (try clear hb); (try clear hb2); (try clear hk); (try clear hi))))
                  all_goals (try (exfalso; first | (simp at c36b0; done) | (simp at c36b0; contradiction) | (simp at c54b0; done) | (simp at c54b0; contradiction) | (simp at c68b0; done) | (simp at c68b0; contradiction) | (simp at c86b0; done) | (simp at c86b0; contradiction)))
                  all_goals (repeat (go_quiet (first | (go_at_call 8; (with_reducible refine (w9_awake.calls k3  t420 _ A51.out).mono ?_); rintro e w53 ⟨rfl, hb⟩; have n0_ := aK (Kd.R_below (by (with_reducible repeat (first | apply Kd.R_alloc | apply Kd.R_drewN | apply Kd.R_drew)); exact HO_11.out) hb); have n1_ := aK (Kd.R_below (by (with_reducible repeat (first | apply Kd.R_alloc | apply Kd.R_drewN | apply Kd.R_drew)); exact HO_13.out) hb); have n2_ := aK (bSp (by repeat (first | (with_reducible first | exact HB.out | apply bAl | apply pbD | apply bD1) | exact HB.out)) hb); clear HO_11; clear HO_13; clear HB; have HO_11 := n0_; have HO_13 := n1_; have HB := n2_; clear n0_ n1_ n2_; (try clear hb); (try clear hb2); (try clear hk); (try clear hi))); try go_wp2_with (first | (go_at_call 8; (with_reducible refine (w9_awake.calls k3  t420 _ A51.out).mono ?_); rintro e w53 ⟨rfl, hb⟩; have n0_ := aK (Kd.R_below (by (with_reducible repeat (first | apply Kd.R_alloc | apply Kd.R_drewN | apply Kd.R_drew)); exact HO_11.out) hb); have n1_ := aK (Kd.R_below (by (with_reducible repeat (first | apply Kd.R_alloc | apply Kd.R_drewN | apply Kd.R_drew)); exact HO_13.out) hb); have n2_ := aK (bSp (by repeat (first | (with_reducible first | exact HB.out | apply bAl | apply pbD | apply bD1) | exact HB.out)) hb); clear HO_11; clear HO_13; clear HB; have HO_11 := n0_; have HO_13 := n1_; have HB := n2_; clear n0_ n1_ n2_; (try clear hb); (try clear hb2); (try clear hk); (try clear hi)))))
                  all_goals (try (exfalso; first | (simp at c36b0; done) | (simp at c36b0; contradiction) | (simp at c54b0; done) | (simp at c54b0; contradiction) | (simp at c68b0; done) | (simp at c68b0; contradiction) | (simp at c86b0; done) | (simp at c86b0; contradiction)))
                  all_goals go_ret
                  all_goals (exact ⟨by first | rfl | (simp [eWn, eWs] <;> rfl) | (simp [*, eWn, eWs] <;> rfl), by repeat (first | (with_reducible first | exact HB.out | apply bAl | apply pbD | apply bD1) | exact HB.out)⟩)
                 ·
                  rw [if_neg c50] at H
                  have c50b0 : ((x12_15.toList == x14_15.toList) == false) = false := by simpa using c50
                  (try (have c50b1 : decide ((x12_15.toList == x14_15.toList) = false) = false := by simpa using c50))
                  (try (have c50b2 : ((x12_15.toList == x14_15.toList) == false) = false := by simpa using c50))
                  (try (have c50b3 : ¬ ((x12_15.toList == x14_15.toList) = false) := by simpa using c50))
                  clear c50
                  exact absurd ((oI H).trans hT.out) (by decide)
              ·
               rw [if_neg c36] at H
               have c36b0 : (((x14_15.extract 0 ((x12_15.size : Int) : Int).toNat).toList == x12_15.toList) == x15_3) = false := by simpa using c36
               (try (have c36b1 : decide (((x14_15.extract 0 ((x12_15.size : Int) : Int).toNat).toList == x12_15.toList) = x15_3) = false := by simpa using c36))
               (try (have c36b2 : (((x14_15.extract 0 ((x12_15.size : Int) : Int).toNat).toList == x12_15.toList) == x15_3) = false := by simpa using c36))
               (try (have c36b3 : ¬ (((x14_15.extract 0 ((x12_15.size : Int) : Int).toNat).toList == x12_15.toList) = x15_3) := by simpa using c36))
               clear c36
               exact absurd ((oI H).trans hT.out) (by decide)
             ·
              rw [if_neg c34] at H
              exact absurd H (by simp)
            ·
             rw [if_neg c33] at H
             have c33b0 : decide ((x14_15.size : Int) ≤ (x12_15.size : Int)) = false := decide_eq_false c33
             have c33b1 : decide (x14_15.size ≤ x12_15.size) = false := decide_eq_false (fun h => c33 (Int.ofNat_le.mpr h))
             clear c33
             by_cases c54 : (((x14_15.extract 0 ((x12_15.size : Int) : Int).toNat).toList == x12_15.toList) == x15_3) = true
             ·
              rw [if_pos c54] at H
              have c54b0 : (((x14_15.extract 0 ((x12_15.size : Int) : Int).toNat).toList == x12_15.toList) == x15_3) = true := c54
              (try (have c54b1 : decide (((x14_15.extract 0 ((x12_15.size : Int) : Int).toNat).toList == x12_15.toList) = x15_3) = true := by simpa using c54))
              (try (have c54b2 : (((x14_15.extract 0 ((x12_15.size : Int) : Int).toNat).toList == x12_15.toList) == x15_3) = true := by simpa using c54))
              clear c54
              by_cases c55 : x15_3 = true
              ·
               subst c55
               have H1 : (if ((x12_15.toList == x14_15.toList) == ((x11_15.length : Int) == (x13_15.length : Int))) = true then ((w9_awake.f k3).bind fun t421 => (some t421)) else (some false)) = some r := by rw [if_pos rfl] at H; exact H
               clear H
               have H := H1
               clear H1
               by_cases c56 : ((x12_15.toList == x14_15.toList) == ((x11_15.length : Int) == (x13_15.length : Int))) = true
               ·
                rw [if_pos c56] at H
                have c56b0 : ((x12_15.toList == x14_15.toList) == ((x11_15.length : Int) == (x13_15.length : Int))) = true := c56
                (try (have c56b1 : decide ((x12_15.toList == x14_15.toList) = ((x11_15.length : Int) == (x13_15.length : Int))) = true := by simpa using c56))
                (try (have c56b2 : ((x12_15.toList == x14_15.toList) == ((x11_15.length : Int) == (x13_15.length : Int))) = true := by simpa using c56))
                clear c56
                replace H := oB H
                obtain ⟨t421, A570, H⟩ := H
                replace H : (some t421) = some r := H
                have A57 := aK A570
                clear A570
                obtain rfl := oI H
                obtain ⟨Ao58, co58, eo58⟩ := Kd.R_slice HO_11.out
                subst eo58
                obtain ⟨Ao59, co59, eo59⟩ := Kd.R_slice HO_13.out
                subst eo59
                all_goals (try (exfalso; first | (simp at c36b0; done) | (simp at c36b0; contradiction) | (simp at c54b0; done) | (simp at c54b0; contradiction) | (simp at c68b0; done) | (simp at c68b0; contradiction) | (simp at c86b0; done) | (simp at c86b0; contradiction)))
                all_goals (go_wp2_with (first | (go_at_call 8; (with_reducible refine (w9_awake.calls k3  t421 _ A57.out).mono ?_); rintro e w60 ⟨rfl, hb⟩; have n0_ := aK (Kd.R_below (by (with_reducible repeat (first | apply Kd.R_alloc | apply Kd.R_drewN | apply Kd.R_drew)); exact HO_11.out) hb); have n1_ := aK (Kd.R_below (by (with_reducible repeat (first | apply Kd.R_alloc | apply Kd.R_drewN | apply Kd.R_drew)); exact HO_13.out) hb); have n2_ := aK (bSp (by repeat (first | (with_reducible first | exact HB.out | apply bAl | apply pbD | apply bD1) | exact HB.out)) hb); clear HO_11; clear HO_13; clear HB; have HO_11 := n0_; have HO_13 := n1_; have HB := n2_; clear n0_ n1_ n2_; (try clear hb); (try clear hb2); (try clear hk); (try clear hi))))
                all_goals (try (exfalso; first | (simp at c36b0; done) | (simp at c36b0; contradiction) | (simp at c54b0; done) | (simp at c54b0; contradiction) | (simp at c68b0; done) | (simp at c68b0; contradiction) | (simp at c86b0; done) | (simp at c86b0; contradiction)))
                all_goals (repeat (go_quiet (first | (go_at_call 8; (with_reducible refine (w9_awake.calls k3  t421 _ A57.out).mono ?_); rintro e w60 ⟨rfl, hb⟩; have n0_ := aK (Kd.R_below (by (with_reducible repeat (first | apply Kd.R_alloc | apply Kd.R_drewN | apply Kd.R_drew)); exact HO_11.out) hb); have n1_ := aK (Kd.R_below (by (with_reducible repeat (first | apply Kd.R_alloc | apply Kd.R_drewN | apply Kd.R_drew)); exact HO_13.out) hb); have n2_ := aK (bSp (by repeat (first | (with_reducible first | exact HB.out | apply bAl | apply pbD | apply bD1) | exact HB.out)) hb); clear HO_11; clear HO_13; clear HB; have HO_11 := n0_; have HO_13 := n1_; have HB := n2_; clear n0_ n1_ n2_; (try clear hb); (try clear hb2); (try clear hk); (try clear hi))); try go_wp2_with (first | (go_at_call 8; (with_reducible refine (w9_awake.calls k3  t421 _ A57.out).mono ?_); rintro e w60 ⟨rfl, hb⟩; have n0_ := aK (Kd.R_below (by (with_reducible repeat (first | apply Kd.R_alloc | apply Kd.R_drewN | apply Kd.R_drew)); exact HO_11.out) hb); have n1_ := aK (Kd.R_below (by (with_reducible repeat (first | apply Kd.R_alloc | apply Kd.R_drewN | apply Kd.R_drew)); exact HO_13.out) hb); have n2_ := aK (bSp (by repeat (first | (with_reducible first | exact HB.out | apply bAl | apply pbD | apply bD1) | exact HB.out)) hb); clear HO_11; clear HO_13; clear HB; have HO_11 := n0_; have HO_13 := n1_; have HB := n2_; clear n0_ n1_ n2_; (try clear hb); (try clear hb2); (try clear hk); (try clear hi)))))
                all_goals (try (exfalso; first | (simp at c36b0; done) | (simp at c36b0; contradiction) | (simp at c54b0; done) | (simp at c54b0; contradiction) | (simp at c68b0; done) | (simp at c68b0; contradiction) | (simp at c86b0; done) | (simp at c86b0; contradiction)))
                all_goals go_ret
                all_goals (exact ⟨by first | rfl | (simp [eWn, eWs] <;> rfl) | (simp [*, eWn, eWs] <;> rfl), by repeat (first | (with_reducible first | exact HB.out | apply bAl | apply pbD | apply bD1) | exact HB.out)⟩)
               ·
                rw [if_neg c56] at H
                have c56b0 : ((x12_15.toList == x14_15.toList) == ((x11_15.length : Int) == (x13_15.length : Int))) = false := by simpa using c56
                (try (have c56b1 : decide ((x12_15.toList == x14_15.toList) = ((x11_15.length : Int) == (x13_15.length : Int))) = false := by simpa using c56))
                (try (have c56b2 : ((x12_15.toList == x14_15.toList) == ((x11_15.length : Int) == (x13_15.length : Int))) = false := by simpa using c56))
                (try (have c56b3 : ¬ ((x12_15.toList == x14_15.toList) = ((x11_15.length : Int) == (x13_15.length : Int))) := by simpa using c56))
                clear c56
                exact absurd ((oI H).trans hT.out) (by decide)
              ·
               replace c55 := Bool.eq_false_iff.mpr c55
               subst c55
               have H1 : (if ((x12_15.toList == x14_15.toList) == false) = true then ((w9_awake.f k3).bind fun t422 => (some t422)) else (some false)) = some r := by rw [if_neg (show ¬ (false = true) by decide)] at H; exact H
               clear H
               have H := H1
               clear H1
               by_cases c61 : ((x12_15.toList == x14_15.toList) == false) = true
               ·
                rw [if_pos c61] at H
                have c61b0 : ((x12_15.toList == x14_15.toList) == false) = true := c61
                (try (have c61b1 : decide ((x12_15.toList == x14_15.toList) = false) = true := by simpa using c61))
                (try (have c61b2 : ((x12_15.toList == x14_15.toList) == false) = true := by simpa using c61))
                clear c61
                replace H := oB H
                obtain ⟨t422, A620, H⟩ := H
                replace H : (some t422) = some r := H
                have A62 := aK A620
                clear A620
                obtain rfl := oI H
                obtain ⟨Ao63, co63, eo63⟩ := Kd.R_slice HO_11.out
                subst eo63
                all_goals (try (exfalso; first | (simp at c36b0; done) | (simp at c36b0; contradiction) | (simp at c54b0; done) | (simp at c54b0; contradiction) | (simp at c68b0; done) | (simp at c68b0; contradiction) | (simp at c86b0; done) | (simp at c86b0; contradiction)))
                all_goals (go_wp2_with (first | (go_at_call 8; (with_reducible refine (w9_awake.calls k3  t422 _ A62.out).mono ?_); rintro e w64 ⟨rfl, hb⟩; have n0_ := aK (Kd.R_below (by (with_reducible repeat (first | apply Kd.R_alloc | apply Kd.R_drewN | apply Kd.R_drew)); exact HO_11.out) hb); have n1_ := aK (Kd.R_below (by (with_reducible repeat (first | apply Kd.R_alloc | apply Kd.R_drewN | apply Kd.R_drew)); exact HO_13.out) hb); have n2_ := aK (bSp (by repeat (first | (with_reducible first | exact HB.out | apply bAl | apply pbD | apply bD1) | exact HB.out)) hb); clear HO_11; clear HO_13; clear HB; have HO_11 := n0_; have HO_13 := n1_; have HB := n2_; clear n0_ n1_ n2_; (try clear hb); (try clear hb2); (try clear hk); (try clear hi))))
                all_goals (try (exfalso; first | (simp at c36b0; done) | (simp at c36b0; contradiction) | (simp at c54b0; done) | (simp at c54b0; contradiction) | (simp at c68b0; done) | (simp at c68b0; contradiction) | (simp at c86b0; done) | (simp at c86b0; contradiction)))
                all_goals (repeat (go_quiet (first | (go_at_call 8; (with_reducible refine (w9_awake.calls k3  t422 _ A62.out).mono ?_); rintro e w64 ⟨rfl, hb⟩; have n0_ := aK (Kd.R_below (by (with_reducible repeat (first | apply Kd.R_alloc | apply Kd.R_drewN | apply Kd.R_drew)); exact HO_11.out) hb); have n1_ := aK (Kd.R_below (by (with_reducible repeat (first | apply Kd.R_alloc | apply Kd.R_drewN | apply Kd.R_drew)); exact HO_13.out) hb); have n2_ := aK (bSp (by repeat (first | (with_reducible first | exact HB.out | apply bAl | apply pbD | apply bD1) | exact HB.out)) hb); clear HO_11; clear HO_13; clear HB; have HO_11 := n0_; have HO_13 := n1_; have HB := n2_; clear n0_ n1_ n2_; (try clear hb); (try clear hb2); (try clear hk); (try clear hi))); try go_wp2_with (first | (go_at_call 8; (with_reducible refine (w9_awake.calls k3  t422 _ A62.out).mono ?_); rintro e w64 ⟨rfl, hb⟩; have n0_ := aK (Kd.R_below (by (with_reducible repeat (first | apply Kd.R_alloc | apply Kd.R_drewN | apply Kd.R_drew)); exact HO_11.out) hb); have n1_ := aK (Kd.R_below (by (with_reducible repeat (first | apply Kd.R_alloc | apply Kd.R_drewN | apply Kd.R_drew)); exact HO_13.out) hb); have n2_ := aK (bSp (by repeat (first | (with_reducible first | exact HB.out | apply bAl | apply pbD | apply bD1) | exact HB.out)) hb); clear HO_11; clear HO_13; clear HB; have HO_11 := n0_; have HO_13 := n1_; have HB := n2_; clear n0_ n1_ n2_; (try clear hb); (try clear hb2); (try clear hk); (try clear hi)))))
                all_goals (try (exfalso; first | (simp at c36b0; done) | (simp at c36b0; contradiction) | (simp at c54b0; done) | (simp at c54b0; contradiction) | (simp at c68b0; done) | (simp at c68b0; contradiction) | (simp at c86b0; done) | (simp at c86b0; contradiction)))
                all_goals go_ret
                all_goals (exact ⟨by first | rfl | (simp [eWn, eWs] <;> rfl) | (simp [*, eWn, eWs] <;> rfl), by repeat (first | (with_reducible first | exact HB.out | apply bAl | apply pbD | apply bD1) | exact HB.out)⟩)
               ·
                rw [if_neg c61] at H
                have c61b0 : ((x12_15.toList == x14_15.toList) == false) = false := by simpa using c61
                (try (have c61b1 : decide ((x12_15.toList == x14_15.toList) = false) = false := by simpa using c61))
                (try (have c61b2 : ((x12_15.toList == x14_15.toList) == false) = false := by simpa using c61))
                (try (have c61b3 : ¬ ((x12_15.toList == x14_15.toList) = false) := by simpa using c61))
                clear c61
                exact absurd ((oI H).trans hT.out) (by decide)
             ·
              rw [if_neg c54] at H
              have c54b0 : (((x14_15.extract 0 ((x12_15.size : Int) : Int).toNat).toList == x12_15.toList) == x15_3) = false := by simpa using c54
              (try (have c54b1 : decide (((x14_15.extract 0 ((x12_15.size : Int) : Int).toNat).toList == x12_15.toList) = x15_3) = false := by simpa using c54))
              (try (have c54b2 : (((x14_15.extract 0 ((x12_15.size : Int) : Int).toNat).toList == x12_15.toList) == x15_3) = false := by simpa using c54))
              (try (have c54b3 : ¬ (((x14_15.extract 0 ((x12_15.size : Int) : Int).toNat).toList == x12_15.toList) = x15_3) := by simpa using c54))
              clear c54
              exact absurd ((oI H).trans hT.out) (by decide)
           ·
            rw [if_neg c31] at H
            exact absurd H (by simp)
          ·
           rw [if_neg c30] at H
           have c30b0 : decide ((x12_15.size : Int) ≤ (x14_15.size : Int)) = false := decide_eq_false c30
           have c30b1 : decide (x12_15.size ≤ x14_15.size) = false := decide_eq_false (fun h => c30 (Int.ofNat_le.mpr h))
           clear c30
           by_cases c65 : (x14_15.size : Int) ≤ (x12_15.size : Int)
           ·
            rw [if_pos c65] at H
            have c65b0 : decide ((x14_15.size : Int) ≤ (x12_15.size : Int)) = true := decide_eq_true c65
            have c65b1 : decide (x14_15.size ≤ x12_15.size) = true := decide_eq_true (Int.ofNat_le.mp c65)
            clear c65
            by_cases c66 : 0 ≤ (x14_15.size : Int)
            ·
             rw [if_pos c66] at H
             have c66b0 := eq_true c66
             have c66b1 : decide (0 ≤ (x14_15.size : Int)) = true := decide_eq_true c66
             clear c66
             have c67b0 := eq_true (odT (by first | (with_reducible assumption) | assumption) : (x14_15.size : Int) ≤ (x12_15.size : Int))
             by_cases c68 : (false == x15_3) = true
             ·
              rw [if_pos c68] at H
              have c68b0 : (false == x15_3) = true := c68
              (try (have c68b1 : decide (false = x15_3) = true := by simpa using c68))
              (try (have c68b2 : (false == x15_3) = true := by simpa using c68))
              clear c68
              by_cases c69 : ((x12_15.extract 0 ((x14_15.size : Int) : Int).toNat).toList = x14_15.toList)
              ·
               rw [if_pos c69] at H
               have c69b0 : ((x12_15.extract 0 ((x14_15.size : Int) : Int).toNat).toList == x14_15.toList) = true := beq_iff_eq.mpr c69
               have c69b1 : ((x12_15.extract 0 ((x14_15.size : Int) : Int).toNat).toList != x14_15.toList) = false := bne_eq_false_iff_eq.mpr c69
               clear c69
               by_cases c70 : x15_3 = true
               ·
                subst c70
                have H1 : (if ((x12_15.toList == x14_15.toList) == ((x11_15.length : Int) == (x13_15.length : Int))) = true then ((w9_awake.f k3).bind fun t423 => (some t423)) else (some false)) = some r := by rw [if_pos rfl] at H; exact H
                clear H
                have H := H1
                clear H1
                by_cases c71 : ((x12_15.toList == x14_15.toList) == ((x11_15.length : Int) == (x13_15.length : Int))) = true
                ·
                 rw [if_pos c71] at H
                 have c71b0 : ((x12_15.toList == x14_15.toList) == ((x11_15.length : Int) == (x13_15.length : Int))) = true := c71
                 (try (have c71b1 : decide ((x12_15.toList == x14_15.toList) = ((x11_15.length : Int) == (x13_15.length : Int))) = true := by simpa using c71))
                 (try (have c71b2 : ((x12_15.toList == x14_15.toList) == ((x11_15.length : Int) == (x13_15.length : Int))) = true := by simpa using c71))
                 clear c71
                 replace H := oB H
                 obtain ⟨t423, A720, H⟩ := H
                 replace H : (some t423) = some r := H
                 have A72 := aK A720
                 clear A720
                 obtain rfl := oI H
                 obtain ⟨Ao73, co73, eo73⟩ := Kd.R_slice HO_11.out
                 subst eo73
                 obtain ⟨Ao74, co74, eo74⟩ := Kd.R_slice HO_13.out
                 subst eo74
                 all_goals (try (exfalso; first | (simp at c36b0; done) | (simp at c36b0; contradiction) | (simp at c54b0; done) | (simp at c54b0; contradiction) | (simp at c68b0; done) | (simp at c68b0; contradiction) | (simp at c86b0; done) | (simp at c86b0; contradiction)))
                 all_goals (go_wp2_with (first | (go_at_call 8; (with_reducible refine (w9_awake.calls k3  t423 _ A72.out).mono ?_); rintro e w75 ⟨rfl, hb⟩; have n0_ := aK (Kd.R_below (by (with_reducible repeat (first | apply Kd.R_alloc | apply Kd.R_drewN | apply Kd.R_drew)); exact HO_11.out) hb); have n1_ := aK (Kd.R_below (by (with_reducible repeat (first | apply Kd.R_alloc | apply Kd.R_drewN | apply Kd.R_drew)); exact HO_13.out) hb); have n2_ := aK (bSp (by repeat (first | (with_reducible first | exact HB.out | apply bAl | apply pbD | apply bD1) | exact HB.out)) hb); clear HO_11; clear HO_13; clear HB; have HO_11 := n0_; have HO_13 := n1_; have HB := n2_; clear n0_ n1_ n2_; (try clear hb); (try clear hb2); (try clear hk); (try clear hi))))
                 all_goals (try (exfalso; first | (simp at c36b0; done) | (simp at c36b0; contradiction) | (simp at c54b0; done) | (simp at c54b0; contradiction) | (simp at c68b0; done) | (simp at c68b0; contradiction) | (simp at c86b0; done) | (simp at c86b0; contradiction)))
                 all_goals (repeat (go_quiet (first | (go_at_call 8; (with_reducible refine (w9_awake.calls k3  t423 _ A72.out).mono ?_); rintro e w75 ⟨rfl, hb⟩; have n0_ := aK (Kd.R_below (by (with_reducible repeat (first | apply Kd.R_alloc | apply Kd.R_drewN | apply Kd.R_drew)); exact HO_11.out) hb); have n1_ := aK (Kd.R_below (by (with_reducible repeat (first | apply Kd.R_alloc | apply Kd.R_drewN | apply Kd.R_drew)); exact HO_13.out) hb); have n2_ := aK (bSp (by repeat (first | (with_reducible first | exact HB.out | apply bAl | apply pbD | apply bD1) | exact HB.out)) hb); clear HO_11; clear HO_13; clear HB; have HO_11 := n0_; have HO_13 := n1_; have HB := n2_; clear n0_ n1_ n2_; (try clear hb); (try clear hb2); (try clear hk); (try clear hi))); try go_wp2_with (first | (go_at_call 8; (with_reducible refine (w9_awake.calls k3  t423 _ A72.out).mono ?_); rintro e w75 ⟨rfl, hb⟩; have n0_ := aK (Kd.R_below (by (with_reducible repeat (first | apply Kd.R_alloc | apply Kd.R_drewN | apply Kd.R_drew)); exact HO_11.out) hb); have n1_ := aK (Kd.R_below (by (with_reducible repeat (first | apply Kd.R_alloc | apply Kd.R_drewN | apply Kd.R_drew)); exact HO_13.out) hb); have n2_ := aK (bSp (by repeat (first | (with_reducible first | exact HB.out | apply bAl | apply pbD | apply bD1) | exact HB.out)) hb); clear HO_11; clear HO_13; clear HB; have HO_11 := n0_; have HO_13 := n1_; have HB := n2_; clear n0_ n1_ n2_; (try clear hb); (try clear hb2); (try clear hk); (try clear hi)))))
                 all_goals (try (exfalso; first | (simp at c36b0; done) | (simp at c36b0; contradiction) | (simp at c54b0; done) | (simp at c54b0; contradiction) | (simp at c68b0; done) | (simp at c68b0; contradiction) | (simp at c86b0; done) | (simp at c86b0; contradiction)))
                 all_goals go_ret
                 all_goals (exact ⟨by first | rfl | (simp [eWn, eWs] <;> rfl) | (simp [*, eWn, eWs] <;> rfl), by repeat (first | (with_reducible first | exact HB.out | apply bAl | apply pbD | apply bD1) | exact HB.out)⟩)
                ·
                 rw [if_neg c71] at H
                 have c71b0 : ((x12_15.toList == x14_15.toList) == ((x11_15.length : Int) == (x13_15.length : Int))) = false := by simpa using c71
                 (try (have c71b1 : decide ((x12_15.toList == x14_15.toList) = ((x11_15.length : Int) == (x13_15.length : Int))) = false := by simpa using c71))
                 (try (have c71b2 : ((x12_15.toList == x14_15.toList) == ((x11_15.length : Int) == (x13_15.length : Int))) = false := by simpa using c71))
                 (try (have c71b3 : ¬ ((x12_15.toList == x14_15.toList) = ((x11_15.length : Int) == (x13_15.length : Int))) := by simpa using c71))
                 clear c71
                 exact absurd ((oI H).trans hT.out) (by decide)
               ·
                replace c70 := Bool.eq_false_iff.mpr c70
                subst c70
                have H1 : (some false) = some r := by rw [if_neg (show ¬ (false = true) by decide)] at H; exact H
                clear H
                have H := H1
                clear H1
                exact absurd ((oI H).trans hT.out) (by decide)
              ·
               rw [if_neg c69] at H
               have c69b0 : ((x12_15.extract 0 ((x14_15.size : Int) : Int).toNat).toList == x14_15.toList) = false := beq_eq_false_iff_ne.mpr c69
               have c69b1 : ((x12_15.extract 0 ((x14_15.size : Int) : Int).toNat).toList != x14_15.toList) = true := bne_iff_ne.mpr c69
               by_cases c76 : x15_3 = true
               ·
                subst c76
                have H1 : (if ((x12_15.toList == x14_15.toList) == ((x11_15.length : Int) == (x13_15.length : Int))) = true then ((w9_awake.f k3).bind fun t424 => (some t424)) else (some false)) = some r := by rw [if_pos rfl] at H; exact H
                clear H
                have H := H1
                clear H1
                by_cases c77 : ((x12_15.toList == x14_15.toList) == ((x11_15.length : Int) == (x13_15.length : Int))) = true
                ·
                 rw [if_pos c77] at H
                 have c77b0 : ((x12_15.toList == x14_15.toList) == ((x11_15.length : Int) == (x13_15.length : Int))) = true := c77
                 (try (have c77b1 : decide ((x12_15.toList == x14_15.toList) = ((x11_15.length : Int) == (x13_15.length : Int))) = true := by simpa using c77))
                 (try (have c77b2 : ((x12_15.toList == x14_15.toList) == ((x11_15.length : Int) == (x13_15.length : Int))) = true := by simpa using c77))
                 clear c77
                 replace H := oB H
                 obtain ⟨t424, A780, H⟩ := H
                 replace H : (some t424) = some r := H
                 have A78 := aK A780
                 clear A780
                 obtain rfl := oI H
                 obtain ⟨Ao79, co79, eo79⟩ := Kd.R_slice HO_11.out
                 subst eo79
                 obtain ⟨Ao80, co80, eo80⟩ := Kd.R_slice HO_13.out
                 subst eo80
                 all_goals (try (exfalso; first | (simp at c36b0; done) | (simp at c36b0; contradiction) | (simp at c54b0; done) | (simp at c54b0; contradiction) | (simp at c68b0; done) | (simp at c68b0; contradiction) | (simp at c86b0; done) | (simp at c86b0; contradiction)))
                 all_goals (go_wp2_with (first | (go_at_call 8; (with_reducible refine (w9_awake.calls k3  t424 _ A78.out).mono ?_); rintro e w81 ⟨rfl, hb⟩; have n0_ := aK (Kd.R_below (by (with_reducible repeat (first | apply Kd.R_alloc | apply Kd.R_drewN | apply Kd.R_drew)); exact HO_11.out) hb); have n1_ := aK (Kd.R_below (by (with_reducible repeat (first | apply Kd.R_alloc | apply Kd.R_drewN | apply Kd.R_drew)); exact HO_13.out) hb); have n2_ := aK (bSp (by repeat (first | (with_reducible first | exact HB.out | apply bAl | apply pbD | apply bD1) | exact HB.out)) hb); clear HO_11; clear HO_13; clear HB; have HO_11 := n0_; have HO_13 := n1_; have HB := n2_; clear n0_ n1_ n2_; (try clear hb); (try clear hb2); (try clear hk); (try clear hi))))
                 all_goals (try (exfalso; first | (simp at c36b0; done) | (simp at c36b0; contradiction) | (simp at c54b0; done) | (simp at c54b0; contradiction) | (simp at c68b0; done) | (simp at c68b0; contradiction) | (simp at c86b0; done) | (simp at c86b0; contradiction)))
                 all_goals (repeat (go_quiet (first | (go_at_call 8; (with_reducible refine (w9_awake.calls k3  t424 _ A78.out).mono ?_); rintro e w81 ⟨rfl, hb⟩; have n0_ := aK (Kd.R_below (by (with_reducible repeat (first | apply Kd.R_alloc | apply Kd.R_drewN | apply Kd.R_drew)); exact HO_11.out) hb); have n1_ := aK (Kd.R_below (by (with_reducible repeat (first | apply Kd.R_alloc | apply Kd.R_drewN | apply Kd.R_drew)); exact HO_13.out) hb); have n2_ := aK (bSp (by repeat (first | (with_reducible first | exact HB.out | apply bAl | apply pbD | apply bD1) | exact HB.out)) hb); clear HO_11; clear HO_13; clear HB; have HO_11 := n0_; have HO_13 := n1_; have HB := n2_; clear n0_ n1_ n2_; (try clear hb); (try clear hb2); (try clear hk); (try clear hi))); try go_wp2_with (first | (go_at_call 8; (with_reducible refine (w9_awake.calls k3  t424 _ A78.out).mono ?_); rintro e w81 ⟨rfl, hb⟩; have n0_ := aK (Kd.R_below (by (with_reducible repeat (first | apply Kd.R_alloc | apply Kd.R_drewN | apply Kd.R_drew)); exact HO_11.out) hb); have n1_ := aK (Kd.R_below (by (with_reducible repeat (first | apply Kd.R_alloc | apply Kd.R_drewN | apply Kd.R_drew)); exact HO_13.out) hb); have n2_ := aK (bSp (by repeat (first | (with_reducible first | exact HB.out | apply bAl | apply pbD | apply bD1) | exact HB.out)) hb); clear HO_11; clear HO_13; clear HB; have HO_11 := n0_; have HO_13 := n1_; have HB := n2_; clear n0_ n1_ n2_; (try clear hb); (try clear hb2); (try clear hk); (try clear hi)))))
                 all_goals (try (exfalso; first | (simp at c36b0; done) | (simp at c36b0; contradiction) | (simp at c54b0; done) | (simp at c54b0; contradiction) | (simp at c68b0; done) | (simp at c68b0; contradiction) | (simp at c86b0; done) | (simp at c86b0; contradiction)))
                 all_goals go_ret
                 all_goals (exact ⟨by first | rfl | (simp [eWn, eWs] <;> rfl) | (simp [*, eWn, eWs] <;> rfl), by repeat (first | (with_reducible first | exact HB.out | apply bAl | apply pbD | apply bD1) | exact HB.out)⟩)
                ·
                 rw [if_neg c77] at H
                 have c77b0 : ((x12_15.toList == x14_15.toList) == ((x11_15.length : Int) == (x13_15.length : Int))) = false := by simpa using c77
                 (try (have c77b1 : decide ((x12_15.toList == x14_15.toList) = ((x11_15.length : Int) == (x13_15.length : Int))) = false := by simpa using c77))
                 (try (have c77b2 : ((x12_15.toList == x14_15.toList) == ((x11_15.length : Int) == (x13_15.length : Int))) = false := by simpa using c77))
                 (try (have c77b3 : ¬ ((x12_15.toList == x14_15.toList) = ((x11_15.length : Int) == (x13_15.length : Int))) := by simpa using c77))
                 clear c77
                 exact absurd ((oI H).trans hT.out) (by decide)
               ·
                replace c76 := Bool.eq_false_iff.mpr c76
                subst c76
                have H1 : (if ((x12_15.toList == x14_15.toList) == false) = true then ((w9_awake.f k3).bind fun t425 => (some t425)) else (some false)) = some r := by rw [if_neg (show ¬ (false = true) by decide)] at H; exact H
                clear H
                have H := H1
                clear H1
                by_cases c82 : ((x12_15.toList == x14_15.toList) == false) = true
                ·
                 rw [if_pos c82] at H
                 have c82b0 : ((x12_15.toList == x14_15.toList) == false) = true := c82
                 (try (have c82b1 : decide ((x12_15.toList == x14_15.toList) = false) = true := by simpa using c82))
                 (try (have c82b2 : ((x12_15.toList == x14_15.toList) == false) = true := by simpa using c82))
                 clear c82
                 replace H := oB H
                 obtain ⟨t425, A830, H⟩ := H
                 replace H : (some t425) = some r := H
                 have A83 := aK A830
                 clear A830
                 obtain rfl := oI H
                 obtain ⟨Ao84, co84, eo84⟩ := Kd.R_slice HO_11.out
                 subst eo84
                 all_goals (try (exfalso; first | (simp at c36b0; done) | (simp at c36b0; contradiction) | (simp at c54b0; done) | (simp at c54b0; contradiction) | (simp at c68b0; done) | (simp at c68b0; contradiction) | (simp at c86b0; done) | (simp at c86b0; contradiction)))
                 all_goals (go_wp2_with (first | (go_at_call 8; (with_reducible refine (w9_awake.calls k3  t425 _ A83.out).mono ?_); rintro e w85 ⟨rfl, hb⟩; have n0_ := aK (Kd.R_below (by (with_reducible repeat (first | apply Kd.R_alloc | apply Kd.R_drewN | apply Kd.R_drew)); exact HO_11.out) hb); have n1_ := aK (Kd.R_below (by (with_reducible repeat (first | apply Kd.R_alloc | apply Kd.R_drewN | apply Kd.R_drew)); exact HO_13.out) hb); have n2_ := aK (bSp (by repeat (first | (with_reducible first | exact HB.out | apply bAl | apply pbD | apply bD1) | exact HB.out)) hb); clear HO_11; clear HO_13; clear HB; have HO_11 := n0_; have HO_13 := n1_; have HB := n2_; clear n0_ n1_ n2_; (try clear hb); (try clear hb2); (try clear hk); (try clear hi))))
                 all_goals (try (exfalso; first | (simp at c36b0; done) | (simp at c36b0; contradiction) | (simp at c54b0; done) | (simp at c54b0; contradiction) | (simp at c68b0; done) | (simp at c68b0; contradiction) | (simp at c86b0; done) | (simp at c86b0; contradiction)))
                 all_goals (repeat (go_quiet (first | (go_at_call 8; (with_reducible refine (w9_awake.calls k3  t425 _ A83.out).mono ?_); rintro e w85 ⟨rfl, hb⟩; have n0_ := aK (Kd.R_below (by (with_reducible repeat (first | apply Kd.R_alloc | apply Kd.R_drewN | apply Kd.R_drew)); exact HO_11.out) hb); have n1_ := aK (Kd.R_below (by (with_reducible repeat (first | apply Kd.R_alloc | apply Kd.R_drewN | apply Kd.R_drew)); exact HO_13.out) hb); have n2_ := aK (bSp (by repeat (first | (with_reducible first | exact HB.out | apply bAl | apply pbD | apply bD1) | exact HB.out)) hb); clear HO_11; clear HO_13; clear HB; have HO_11 := n0_; have HO_13 := n1_; have HB := n2_; clear n0_ n1_ n2_; (try clear hb); (try clear hb2); (try clear hk); (try clear hi))); try go_wp2_with (first | (go_at_call 8; (with_reducible refine (w9_awake.calls k3  t425 _ A83.out).mono ?_); rintro e w85 ⟨rfl, hb⟩; have n0_ := aK (Kd.R_below (by (with_reducible repeat (first | apply Kd.R_alloc | apply Kd.R_drewN | apply Kd.R_drew)); exact HO_11.out) hb); have n1_ := aK (Kd.R_below (by (with_reducible repeat (first | apply Kd.R_alloc | apply Kd.R_drewN | apply Kd.R_drew)); exact HO_13.out) hb); have n2_ := aK (bSp (by repeat (first | (with_reducible first | exact HB.out | apply bAl | apply pbD | apply bD1) | exact HB.out)) hb); clear HO_11; clear HO_13; clear HB; have HO_11 := n0_; have HO_13 := n1_; have HB := n2_; clear n0_ n1_ n2_; (try clear hb); (try clear hb2); (try clear hk); (try clear hi)))))
                 all_goals (try (exfalso; first | (simp at c36b0; done) | (simp at c36b0; contradiction) | (simp at c54b0; done) | (simp at c54b0; contradiction) | (simp at c68b0; done) | (simp at c68b0; contradiction) | (simp at c86b0; done) | (simp at c86b0; contradiction)))
                 all_goals go_ret
                 all_goals (exact ⟨by first | rfl | (simp [eWn, eWs] <;> rfl) | (simp [*, eWn, eWs] <;> rfl), by repeat (first | (with_reducible first | exact HB.out | apply bAl | apply pbD | apply bD1) | exact HB.out)⟩)
                ·
                 rw [if_neg c82] at H
                 have c82b0 : ((x12_15.toList == x14_15.toList) == false) = false := by simpa using c82
                 (try (have c82b1 : decide ((x12_15.toList == x14_15.toList) = false) = false := by simpa using c82))
                 (try (have c82b2 : ((x12_15.toList == x14_15.toList) == false) = false := by simpa using c82))
                 (try (have c82b3 : ¬ ((x12_15.toList == x14_15.toList) = false) := by simpa using c82))
                 clear c82
                 exact absurd ((oI H).trans hT.out) (by decide)
             ·
              rw [if_neg c68] at H
              have c68b0 : (false == x15_3) = false := by simpa using c68
              (try (have c68b1 : decide (false = x15_3) = false := by simpa using c68))
              (try (have c68b2 : (false == x15_3) = false := by simpa using c68))
              (try (have c68b3 : ¬ (false = x15_3) := by simpa using c68))
              clear c68
              exact absurd ((oI H).trans hT.out) (by decide)
            ·
             rw [if_neg c66] at H
             exact absurd H (by simp)
           ·
            rw [if_neg c65] at H
            have c65b0 : decide ((x14_15.size : Int) ≤ (x12_15.size : Int)) = false := decide_eq_false c65
            have c65b1 : decide (x14_15.size ≤ x12_15.size) = false := decide_eq_false (fun h => c65 (Int.ofNat_le.mpr h))
            clear c65
            by_cases c86 : (false == x15_3) = true
            ·
             rw [if_pos c86] at H
             have c86b0 : (false == x15_3) = true := c86
             (try (have c86b1 : decide (false = x15_3) = true := by simpa using c86))
             (try (have c86b2 : (false == x15_3) = true := by simpa using c86))
             clear c86
             by_cases c87 : x15_3 = true
             ·
              subst c87
              have H1 : (if ((x12_15.toList == x14_15.toList) == ((x11_15.length : Int) == (x13_15.length : Int))) = true then ((w9_awake.f k3).bind fun t426 => (some t426)) else (some false)) = some r := by rw [if_pos rfl] at H; exact H
              clear H
              have H := H1
              clear H1
              by_cases c88 : ((x12_15.toList == x14_15.toList) == ((x11_15.length : Int) == (x13_15.length : Int))) = true
              ·
               rw [if_pos c88] at H
               have c88b0 : ((x12_15.toList == x14_15.toList) == ((x11_15.length : Int) == (x13_15.length : Int))) = true := c88
               (try (have c88b1 : decide ((x12_15.toList == x14_15.toList) = ((x11_15.length : Int) == (x13_15.length : Int))) = true := by simpa using c88))
               (try (have c88b2 : ((x12_15.toList == x14_15.toList) == ((x11_15.length : Int) == (x13_15.length : Int))) = true := by simpa using c88))
               clear c88
               replace H := oB H
               obtain ⟨t426, A890, H⟩ := H
               replace H : (some t426) = some r := H
               have A89 := aK A890
               clear A890
               obtain rfl := oI H
               obtain ⟨Ao90, co90, eo90⟩ := Kd.R_slice HO_11.out
               subst eo90
               obtain ⟨Ao91, co91, eo91⟩ := Kd.R_slice HO_13.out
               subst eo91
               all_goals (try (exfalso; first | (simp at c36b0; done) | (simp at c36b0; contradiction) | (simp at c54b0; done) | (simp at c54b0; contradiction) | (simp at c68b0; done) | (simp at c68b0; contradiction) | (simp at c86b0; done) | (simp at c86b0; contradiction)))
               all_goals (go_wp2_with (first | (go_at_call 8; (with_reducible refine (w9_awake.calls k3  t426 _ A89.out).mono ?_); rintro e w92 ⟨rfl, hb⟩; have n0_ := aK (Kd.R_below (by (with_reducible repeat (first | apply Kd.R_alloc | apply Kd.R_drewN | apply Kd.R_drew)); exact HO_11.out) hb); have n1_ := aK (Kd.R_below (by (with_reducible repeat (first | apply Kd.R_alloc | apply Kd.R_drewN | apply Kd.R_drew)); exact HO_13.out) hb); have n2_ := aK (bSp (by repeat (first | (with_reducible first | exact HB.out | apply bAl | apply pbD | apply bD1) | exact HB.out)) hb); clear HO_11; clear HO_13; clear HB; have HO_11 := n0_; have HO_13 := n1_; have HB := n2_; clear n0_ n1_ n2_; (try clear hb); (try clear hb2); (try clear hk); (try clear hi))))
               all_goals (try (exfalso; first | (simp at c36b0; done) | (simp at c36b0; contradiction) | (simp at c54b0; done) | (simp at c54b0; contradiction) | (simp at c68b0; done) | (simp at c68b0; contradiction) | (simp at c86b0; done) | (simp at c86b0; contradiction)))
               all_goals (repeat (go_quiet (first | (go_at_call 8; (with_reducible refine (w9_awake.calls k3  t426 _ A89.out).mono ?_); rintro e w92 ⟨rfl, hb⟩; have n0_ := aK (Kd.R_below (by (with_reducible repeat (first | apply Kd.R_alloc | apply Kd.R_drewN | apply Kd.R_drew)); exact HO_11.out) hb); have n1_ := aK (Kd.R_below (by (with_reducible repeat (first | apply Kd.R_alloc | apply Kd.R_drewN | apply Kd.R_drew)); exact HO_13.out) hb); have n2_ := aK (bSp (by repeat (first | (with_reducible first | exact HB.out | apply bAl | apply pbD | apply bD1) | exact HB.out)) hb); clear HO_11; clear HO_13; clear HB; have HO_11 := n0_; have HO_13 := n1_; have HB := n2_; clear n0_ n1_ n2_; (try clear hb); (try clear hb2); (try clear hk); (try clear hi))); try go_wp2_with (first | (go_at_call 8; (with_reducible refine (w9_awake.calls k3  t426 _ A89.out).mono ?_); rintro e w92 ⟨rfl, hb⟩; have n0_ := aK (Kd.R_below (by (with_reducible repeat (first | apply Kd.R_alloc | apply Kd.R_drewN | apply Kd.R_drew)); exact HO_11.out) hb); have n1_ := aK (Kd.R_below (by (with_reducible repeat (first | apply Kd.R_alloc | apply Kd.R_drewN | apply Kd.R_drew)); exact HO_13.out) hb); have n2_ := aK (bSp (by repeat (first | (with_reducible first | exact HB.out | apply bAl | apply pbD | apply bD1) | exact HB.out)) hb); clear HO_11; clear HO_13; clear HB; have HO_11 := n0_; have HO_13 := n1_; have HB := n2_; clear n0_ n1_ n2_; (try clear hb); (try clear hb2); (try clear hk); (try clear hi)))))
               all_goals (try (exfalso; first | (simp at c36b0; done) | (simp at c36b0; contradiction) | (simp at c54b0; done) | (simp at c54b0; contradiction) | (simp at c68b0; done) | (simp at c68b0; contradiction) | (simp at c86b0; done) | (simp at c86b0; contradiction)))
               all_goals go_ret
               all_goals (exact ⟨by first | rfl | (simp [eWn, eWs] <;> rfl) | (simp [*, eWn, eWs] <;> rfl), by repeat (first | (with_reducible first | exact HB.out | apply bAl | apply pbD | apply bD1) | exact HB.out)⟩)
              ·
               rw [if_neg c88] at H
               have c88b0 : ((x12_15.toList == x14_15.toList) == ((x11_15.length : Int) == (x13_15.length : Int))) = false := by simpa using c88
               (try (have c88b1 : decide ((x12_15.toList == x14_15.toList) = ((x11_15.length : Int) == (x13_15.length : Int))) = false := by simpa using c88))
               (try (have c88b2 : ((x12_15.toList == x14_15.toList) == ((x11_15.length : Int) == (x13_15.length : Int))) = false := by simpa using c88))
               (try (have c88b3 : ¬ ((x12_15.toList == x14_15.toList) = ((x11_15.length : Int) == (x13_15.length : Int))) := by simpa using c88))
               clear c88
               exact absurd ((oI H).trans hT.out) (by decide)
             ·
              replace c87 := Bool.eq_false_iff.mpr c87
              subst c87
              have H1 : (if ((x12_15.toList == x14_15.toList) == false) = true then ((w9_awake.f k3).bind fun t427 => (some t427)) else (some false)) = some r := by rw [if_neg (show ¬ (false = true) by decide)] at H; exact H
              clear H
              have H := H1
              clear H1
              by_cases c93 : ((x12_15.toList == x14_15.toList) == false) = true
              ·
               rw [if_pos c93] at H
               have c93b0 : ((x12_15.toList == x14_15.toList) == false) = true := c93
               (try (have c93b1 : decide ((x12_15.toList == x14_15.toList) = false) = true := by simpa using c93))
               (try (have c93b2 : ((x12_15.toList == x14_15.toList) == false) = true := by simpa using c93))
               clear c93
               replace H := oB H
               obtain ⟨t427, A940, H⟩ := H
               replace H : (some t427) = some r := H
               have A94 := aK A940
               clear A940
               obtain rfl := oI H
               obtain ⟨Ao95, co95, eo95⟩ := Kd.R_slice HO_11.out
               subst eo95
               all_goals (try (exfalso; first | (simp at c36b0; done) | (simp at c36b0; contradiction) | (simp at c54b0; done) | (simp at c54b0; contradiction) | (simp at c68b0; done) | (simp at c68b0; contradiction) | (simp at c86b0; done) | (simp at c86b0; contradiction)))
               all_goals (go_wp2_with (first | (go_at_call 8; (with_reducible refine (w9_awake.calls k3  t427 _ A94.out).mono ?_); rintro e w96 ⟨rfl, hb⟩; have n0_ := aK (Kd.R_below (by (with_reducible repeat (first | apply Kd.R_alloc | apply Kd.R_drewN | apply Kd.R_drew)); exact HO_11.out) hb); have n1_ := aK (Kd.R_below (by (with_reducible repeat (first | apply Kd.R_alloc | apply Kd.R_drewN | apply Kd.R_drew)); exact HO_13.out) hb); have n2_ := aK (bSp (by repeat (first | (with_reducible first | exact HB.out | apply bAl | apply pbD | apply bD1) | exact HB.out)) hb); clear HO_11; clear HO_13; clear HB; have HO_11 := n0_; have HO_13 := n1_; have HB := n2_; clear n0_ n1_ n2_; (try clear hb); (try clear hb2); (try clear hk); (try clear hi))))
               all_goals (try (exfalso; first | (simp at c36b0; done) | (simp at c36b0; contradiction) | (simp at c54b0; done) | (simp at c54b0; contradiction) | (simp at c68b0; done) | (simp at c68b0; contradiction) | (simp at c86b0; done) | (simp at c86b0; contradiction)))
               all_goals (repeat (go_quiet (first | (go_at_call 8; (with_reducible refine (w9_awake.calls k3  t427 _ A94.out).mono ?_); rintro e w96 ⟨rfl, hb⟩; have n0_ := aK (Kd.R_below (by (with_reducible repeat (first | apply Kd.R_alloc | apply Kd.R_drewN | apply Kd.R_drew)); exact HO_11.out) hb); have n1_ := aK (Kd.R_below (by (with_reducible repeat (first | apply Kd.R_alloc | apply Kd.R_drewN | apply Kd.R_drew)); exact HO_13.out) hb); have n2_ := aK (bSp (by repeat (first | (with_reducible first | exact HB.out | apply bAl | apply pbD | apply bD1) | exact HB.out)) hb); clear HO_11; clear HO_13; clear HB; have HO_11 := n0_; have HO_13 := n1_; have HB := n2_; clear n0_ n1_ n2_; (try clear hb); (try clear hb2); (try clear hk); (try clear hi))); try go_wp2_with (first | (go_at_call 8; (with_reducible refine (w9_awake.calls k3  t427 _ A94.out).mono ?_); rintro e w96 ⟨rfl, hb⟩; have n0_ := aK (Kd.R_below (by (with_reducible repeat (first | apply Kd.R_alloc | apply Kd.R_drewN | apply Kd.R_drew)); exact HO_11.out) hb); have n1_ := aK (Kd.R_below (by (with_reducible repeat (first | apply Kd.R_alloc | apply Kd.R_drewN | apply Kd.R_drew)); exact HO_13.out) hb); have n2_ := aK (bSp (by repeat (first | (with_reducible first | exact HB.out | apply bAl | apply pbD | apply bD1) | exact HB.out)) hb); clear HO_11; clear HO_13; clear HB; have HO_11 := n0_; have HO_13 := n1_; have HB := n2_; clear n0_ n1_ n2_; (try clear hb); (try clear hb2); (try clear hk); (try clear hi)))))
               all_goals (try (exfalso; first | (simp at c36b0; done) | (simp at c36b0; contradiction) | (simp at c54b0; done) | (simp at c54b0; contradiction) | (simp at c68b0; done) | (simp at c68b0; contradiction) | (simp at c86b0; done) | (simp at c86b0; contradiction)))
               all_goals go_ret
               all_goals (exact ⟨by first | rfl | (simp [eWn, eWs] <;> rfl) | (simp [*, eWn, eWs] <;> rfl), by repeat (first | (with_reducible first | exact HB.out | apply bAl | apply pbD | apply bD1) | exact HB.out)⟩)
              ·
               rw [if_neg c93] at H
               have c93b0 : ((x12_15.toList == x14_15.toList) == false) = false := by simpa using c93
               (try (have c93b1 : decide ((x12_15.toList == x14_15.toList) = false) = false := by simpa using c93))
               (try (have c93b2 : ((x12_15.toList == x14_15.toList) == false) = false := by simpa using c93))
               (try (have c93b3 : ¬ ((x12_15.toList == x14_15.toList) = false) := by simpa using c93))
               clear c93
               exact absurd ((oI H).trans hT.out) (by decide)
            ·
             rw [if_neg c86] at H
             have c86b0 : (false == x15_3) = false := by simpa using c86
             (try (have c86b1 : decide (false = x15_3) = false := by simpa using c86))
             (try (have c86b2 : (false == x15_3) = false := by simpa using c86))
             (try (have c86b3 : ¬ (false = x15_3) := by simpa using c86))
             clear c86
             exact absurd ((oI H).trans hT.out) (by decide)
    ·
     rw [if_neg c13] at H
     have c13b0 : (t406 == 0) = false := beq_eq_false_iff_ne.mpr c13
     have c13b1 : (t406 != 0) = true := bne_iff_ne.mpr c13
     replace H := oB H
     obtain ⟨t407, A970, H⟩ := H
     replace H : (some t407) = some r := H
     have A97 := aK A970
     clear A970
     obtain rfl := oI H
     all_goals (try (exfalso; first | (simp at c36b0; done) | (simp at c36b0; contradiction) | (simp at c54b0; done) | (simp at c54b0; contradiction) | (simp at c68b0; done) | (simp at c68b0; contradiction) | (simp at c86b0; done) | (simp at c86b0; contradiction)))
     all_goals (go_wp2_with (first | (go_at_call 15; (with_reducible refine (check_Table.calls _ _ l0 t405 t406 _ ?side1 ?side2 A12.out).mono ?_); (case side1 => repeat (first | exact (Kd.C_below HR0.out HB.out) | (with_reducible refine Kd.C_alloc ?_ _) | (with_reducible refine Kd.C_drewN ?_ _) | (with_reducible refine Kd.C_drew ?_))); (case side2 => exact HC0.out); rintro e w98 ⟨rfl, hb⟩; have n0_ := aK (bSp (by repeat (first | (with_reducible first | exact HB.out | apply bAl | apply pbD | apply bD1) | exact HB.out)) hb); clear HB; have HB := n0_; clear n0_; (try clear hb); (try clear hb2); (try clear hk); (try clear hi)) | (go_at_call 8; (with_reducible refine (w9_awake.calls kj4  t407 _ A97.out).mono ?_); rintro e w99 ⟨rfl, hb⟩; have n0_ := aK (bSp (by repeat (first | (with_reducible first | exact HB.out | apply bAl | apply pbD | apply bD1) | exact HB.out)) hb); clear HB; have HB := n0_; clear n0_; (try clear hb); (try clear hb2); (try clear hk); (try clear hi))))
     all_goals (try (exfalso; first | (simp at c36b0; done) | (simp at c36b0; contradiction) | (simp at c54b0; done) | (simp at c54b0; contradiction) | (simp at c68b0; done) | (simp at c68b0; contradiction) | (simp at c86b0; done) | (simp at c86b0; contradiction)))
     all_goals (repeat (go_quiet (first | (go_at_call 15; (with_reducible refine (check_Table.calls _ _ l0 t405 t406 _ ?side1 ?side2 A12.out).mono ?_); (case side1 => repeat (first | exact (Kd.C_below HR0.out HB.out) | (with_reducible refine Kd.C_alloc ?_ _) | (with_reducible refine Kd.C_drewN ?_ _) | (with_reducible refine Kd.C_drew ?_))); (case side2 => exact HC0.out); rintro e w98 ⟨rfl, hb⟩; have n0_ := aK (bSp (by repeat (first | (with_reducible first | exact HB.out | apply bAl | apply pbD | apply bD1) | exact HB.out)) hb); clear HB; have HB := n0_; clear n0_; (try clear hb); (try clear hb2); (try clear hk); (try clear hi)) | (go_at_call 8; (with_reducible refine (w9_awake.calls kj4  t407 _ A97.out).mono ?_); rintro e w99 ⟨rfl, hb⟩; have n0_ := aK (bSp (by repeat (first | (with_reducible first | exact HB.out | apply bAl | apply pbD | apply bD1) | exact HB.out)) hb); clear HB; have HB := n0_; clear n0_; (try clear hb); (try clear hb2); (try clear hk); (try clear hi))); try go_wp2_with (first | (go_at_call 15; (with_reducible refine (check_Table.calls _ _ l0 t405 t406 _ ?side1 ?side2 A12.out).mono ?_); (case side1 => repeat (first | exact (Kd.C_below HR0.out HB.out) | (with_reducible refine Kd.C_alloc ?_ _) | (with_reducible refine Kd.C_drewN ?_ _) | (with_reducible refine Kd.C_drew ?_))); (case side2 => exact HC0.out); rintro e w98 ⟨rfl, hb⟩; have n0_ := aK (bSp (by repeat (first | (with_reducible first | exact HB.out | apply bAl | apply pbD | apply bD1) | exact HB.out)) hb); clear HB; have HB := n0_; clear n0_; (try clear hb); (try clear hb2); (try clear hk); (try clear hi)) | (go_at_call 8; (with_reducible refine (w9_awake.calls kj4  t407 _ A97.out).mono ?_); rintro e w99 ⟨rfl, hb⟩; have n0_ := aK (bSp (by repeat (first | (with_reducible first | exact HB.out | apply bAl | apply pbD | apply bD1) | exact HB.out)) hb); clear HB; have HB := n0_; clear n0_; (try clear hb); (try clear hb2); (try clear hk); (try clear hi)))))
     all_goals (try (exfalso; first | (simp at c36b0; done) | (simp at c36b0; contradiction) | (simp at c54b0; done) | (simp at c54b0; contradiction) | (simp at c68b0; done) | (simp at c68b0; contradiction) | (simp at c86b0; done) | (simp at c86b0; contradiction)))
     all_goals go_ret
     all_goals (exact ⟨by first | rfl | (simp [eWn, eWs] <;> rfl) | (simp [*, eWn, eWs] <;> rfl), by repeat (first | (with_reducible first | exact HB.out | apply bAl | apply pbD | apply bD1) | exact HB.out)⟩)
end Go.Proofs.Ytgjkjoocnkdckaa.PChk
