-- Written by a program of this session (prt.py), out of the translation. Lean checks it.
import Derived.Test.YtgjkjoocnkdckaaGreatDoorZPChk0
namespace Go.Proofs.YtgjkjoocnkdckaaGreatDoor.PChk
open Go.RowKit Go.Proofs.YtgjkjoocnkdckaaGreatDoor.G Go.Proofs.YtgjkjoocnkdckaaGreatDoorW.PrintWords Go.Proofs.YtgjkjoocnkdckaaGreatDoorW.PrintLast Go.Proofs.YtgjkjoocnkdckaaGreatDoorW.PrintMore
attribute [local go_sem] max2_int min2_int max_two min_two max_three min_three max_four min_four   -- for this text's walks alone
set_option linter.unusedVariables false
set_option linter.unusedSimpArgs false
def w8_long.l0 : Nat → List (S47) → Int → Option (Bool)
 | 0, _, _ => none
 | k + 1, x0, x3 => if x3 < (x0.length : Int) then (if 0 ≤ x3 then (if (((rd_T47 x0 x3).f1).size : Int) > 50 then (some true) else (if (((rd_T47 x0 x3).f2).size : Int) > 50 then (some true) else (w8_long.l0 k x0 (wrap64 (x3 + 1))))) else (none)) else (some false)
def w8_long.f (k : Nat) (l0 : List (S47)) : Option (Bool) := if (l0.length : Int) > 500 then (some true) else (w8_long.l0 k l0 0)
theorem w8_long.mono_l : ∀ k, (∀ y0 y1, LeO (w8_long.l0 k y0 y1) (w8_long.l0 (k + 1) y0 y1))
 | 0 => fun _ _ r h => by simp [w8_long.l0] at h
 | k + 1 => by
  have ih0 := w8_long.mono_l k
  ·
   intro y0 y1
   unfold w8_long.l0
   repeat' first
   | (with_reducible exact ih0 _ _)
   | (with_reducible exact LeO.refl _)
   | (with_reducible exact LeO.none _)
   | (with_reducible refine LeO.ite ?_ ?_)
   | (with_reducible refine LeO.bind ?_ (fun _ => ?_))
   | exact ih0 _ _
   | exact LeO.none _
   | refine LeO.ite ?_ ?_
   | refine LeO.bind ?_ (fun _ => ?_)
theorem w8_long.mono : ∀ a0 k, LeO (w8_long.f k a0) (w8_long.f (k + 1) a0) := by
 intro a0 k
 have ih0 := w8_long.mono_l k
 unfold w8_long.f
 repeat' first
   | (with_reducible exact ih0 _ _)
   | (with_reducible exact LeO.refl _)
   | (with_reducible exact LeO.none _)
   | (with_reducible refine LeO.ite ?_ ?_)
   | (with_reducible refine LeO.bind ?_ (fun _ => ?_))
   | exact ih0 _ _
   | exact LeO.none _
   | refine LeO.ite ?_ ?_
   | refine LeO.bind ?_ (fun _ => ?_)
set_option maxHeartbeats 8000000 in
set_option maxRecDepth 100000 in
theorem w8_long.calls (k : Nat) (A0 : Option Addr) (c0 : Nat) (l0 : List (S47)) (r : Bool) (w : World) (hr0 : Kd.C k47 w A0 l0.length l0) (hc0 : l0.length ≤ c0) (h : w8_long.f k l0 = some r) :
  Calls Tryz.prog 17 #[.slice A0 l0.length c0] w fun e w' => e = .returned (.bool r) ∧ Drawn0 w w' := by
 have HR0 := aK hr0
 have HC0 := aK hc0
 clear hr0 hc0
 have H : (if (l0.length : Int) > 500 then (some true) else (w8_long.l0 k l0 0)) = some r := h
 clear h
 by_cases c2 : (l0.length : Int) > 500
 ·
  rw [if_pos c2] at H
  have c2b0 : decide (500 < (l0.length : Int)) = true := decide_eq_true c2
  have c2b1 : decide (500 < l0.length) = true := decide_eq_true (by omega)
  clear c2
  obtain rfl := oI H
  go_enter Tryz.func17, Tryz.ntmps17
  go_wp2
  go_ret
  exact ⟨by first | rfl | (simp; done) | (simp [*]; done), by repeat (first | exact Drawn0.refl _ | apply Drawn0.step)⟩
 ·
  rw [if_neg c2] at H
  have c2b0 : decide (500 < (l0.length : Int)) = false := decide_eq_false c2
  have c2b1 : decide (500 < l0.length) = false := decide_eq_false (by omega)
  clear c2
  have H' := aK H
  clear H
  go_enter Tryz.func17, Tryz.ntmps17
  go_wp2
  go_loopg [3] k (fun kq v3 w' => ∃ (x3_1 : Int), v3 = .int .i64 x3_1 ∧ Aside0 (w8_long.l0 kq l0 x3_1 = some r) ∧ Aside0 (kq ≤ k) ∧ Drawn0 w w')
  case atStart => exact ⟨(0), (by first | rfl | (simp; done) | (simp [*]; done)), H', ⟨Nat.le_refl _⟩, by repeat (first | exact Drawn0.refl _ | apply Drawn0.step)⟩
  case round =>
   clear H'
   try clear c1
   try clear c2
   try clear c2b0
   try clear c2b1
   try clear p2
   obtain ⟨x3_1, rfl, HA, HK1, ⟨m1, rfl⟩⟩ := hrel
   cases gk with
   | zero => exact absurd HA.out (by simp [w8_long.l0])
   | succ k1 =>
    have H := HA.out
    clear HA
    simp only [w8_long.l0] at H
    by_cases c3 : x3_1 < (l0.length : Int)
    ·
     rw [if_pos c3] at H
     have c3b0 : decide (x3_1 < (l0.length : Int)) = true := decide_eq_true c3
     clear c3
     by_cases c4 : 0 ≤ x3_1
     ·
      rw [if_pos c4] at H
      have c4b0 : decide (0 ≤ x3_1) = true := decide_eq_true c4
      clear c4
      by_cases c5 : (((rd_T47 l0 x3_1).f1).size : Int) > 50
      ·
       rw [if_pos c5] at H
       have c5b0 : decide (50 < (((rd_T47 l0 x3_1).f1).size : Int)) = true := decide_eq_true c5
       have c5b1 : decide (50 < ((rd_T47 l0 x3_1).f1).size) = true := decide_eq_true (by omega)
       clear c5
       obtain rfl := oI H
       have p276 : 0 ≤ (x3_1 : Int) := odT (by first | (with_reducible assumption) | assumption)
       have q276 : x3_1 < (l0.length : Int) := odT (by first | (with_reducible assumption) | assumption)
       obtain ⟨ad276, e276, hx276_0, hx276_1, hx276_2, hx276_3, hx276_4⟩ := at_T47 HR0.out x3_1 p276 q276
       cases e276
       replace p276 := eq_true p276
       replace q276 := eq_true q276
       go_wp2
       go_ret
       exact ⟨by first | rfl | (simp; done) | (simp [*]; done), by repeat (first | exact Drawn0.refl _ | apply Drawn0.step)⟩
      ·
       rw [if_neg c5] at H
       have c5b0 : decide (50 < (((rd_T47 l0 x3_1).f1).size : Int)) = false := decide_eq_false c5
       have c5b1 : decide (50 < ((rd_T47 l0 x3_1).f1).size) = false := decide_eq_false (by omega)
       clear c5
       by_cases c6 : (((rd_T47 l0 x3_1).f2).size : Int) > 50
       ·
        rw [if_pos c6] at H
        have c6b0 : decide (50 < (((rd_T47 l0 x3_1).f2).size : Int)) = true := decide_eq_true c6
        have c6b1 : decide (50 < ((rd_T47 l0 x3_1).f2).size) = true := decide_eq_true (by omega)
        clear c6
        obtain rfl := oI H
        have p276 : 0 ≤ (x3_1 : Int) := odT (by first | (with_reducible assumption) | assumption)
        have q276 : x3_1 < (l0.length : Int) := odT (by first | (with_reducible assumption) | assumption)
        obtain ⟨ad276, e276, hx276_0, hx276_1, hx276_2, hx276_3, hx276_4⟩ := at_T47 HR0.out x3_1 p276 q276
        cases e276
        replace p276 := eq_true p276
        replace q276 := eq_true q276
        have p277 : 0 ≤ (x3_1 : Int) := odT (by first | (with_reducible assumption) | assumption)
        have q277 : x3_1 < (l0.length : Int) := odT (by first | (with_reducible assumption) | assumption)
        obtain ⟨ad277, e277, hx277_0, hx277_1, hx277_2, hx277_3, hx277_4⟩ := at_T47 HR0.out x3_1 p277 q277
        obtain rfl : ad276 = ad277 := (by injection e277)
        replace p277 := eq_true p277
        replace q277 := eq_true q277
        go_wp2
        go_ret
        exact ⟨by first | rfl | (simp; done) | (simp [*]; done), by repeat (first | exact Drawn0.refl _ | apply Drawn0.step)⟩
       ·
        rw [if_neg c6] at H
        have c6b0 : decide (50 < (((rd_T47 l0 x3_1).f2).size : Int)) = false := decide_eq_false c6
        have c6b1 : decide (50 < ((rd_T47 l0 x3_1).f2).size) = false := decide_eq_false (by omega)
        clear c6
        have H' := aK H
        clear H
        have p276 : 0 ≤ (x3_1 : Int) := odT (by first | (with_reducible assumption) | assumption)
        have q276 : x3_1 < (l0.length : Int) := odT (by first | (with_reducible assumption) | assumption)
        obtain ⟨ad276, e276, hx276_0, hx276_1, hx276_2, hx276_3, hx276_4⟩ := at_T47 HR0.out x3_1 p276 q276
        cases e276
        replace p276 := eq_true p276
        replace q276 := eq_true q276
        have p277 : 0 ≤ (x3_1 : Int) := odT (by first | (with_reducible assumption) | assumption)
        have q277 : x3_1 < (l0.length : Int) := odT (by first | (with_reducible assumption) | assumption)
        obtain ⟨ad277, e277, hx277_0, hx277_1, hx277_2, hx277_3, hx277_4⟩ := at_T47 HR0.out x3_1 p277 q277
        obtain rfl : ad276 = ad277 := (by injection e277)
        replace p277 := eq_true p277
        replace q277 := eq_true q277
        go_wp2
        go_roundg k1
        case measure => have := HK1.out; omega
        case rel => exact ⟨(wrap64 (x3_1 + 1)), (by first | rfl | (simp; done) | (simp [*]; done)), H', ⟨by have := HK1.out; omega⟩, by repeat (first | exact Drawn0.refl _ | apply Drawn0.step)⟩
     ·
      rw [if_neg c4] at H
      exact absurd H (by simp)
    ·
     rw [if_neg c3] at H
     have c3b0 : decide (x3_1 < (l0.length : Int)) = false := decide_eq_false c3
     clear c3
     obtain rfl := oI H
     go_wp2
     go_ret
     exact ⟨by first | rfl | (simp; done) | (simp [*]; done), by repeat (first | exact Drawn0.refl _ | apply Drawn0.step)⟩
end Go.Proofs.YtgjkjoocnkdckaaGreatDoor.PChk
