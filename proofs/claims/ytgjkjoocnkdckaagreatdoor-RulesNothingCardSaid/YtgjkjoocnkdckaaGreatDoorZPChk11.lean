-- Written by a program of this session (prt.py), out of the translation. Lean checks it.
import Derived.Test.YtgjkjoocnkdckaaGreatDoorZGRulUn
import Derived.Test.YtgjkjoocnkdckaaGreatDoorZPChk0
import Derived.Test.YtgjkjoocnkdckaaGreatDoorZPChk3
import Derived.Test.YtgjkjoocnkdckaaGreatDoorZPChk4
namespace Go.Proofs.YtgjkjoocnkdckaaGreatDoor.PChk
open Go.RowKit Go.Proofs.YtgjkjoocnkdckaaGreatDoor.G Go.Proofs.YtgjkjoocnkdckaaGreatDoorW.PrintWords Go.Proofs.YtgjkjoocnkdckaaGreatDoorW.PrintLast Go.Proofs.YtgjkjoocnkdckaaGreatDoorW.PrintMore
attribute [local go_sem] max2_int min2_int max_two min_two max_three min_three max_four min_four   -- for this text's walks alone
set_option linter.unusedVariables false
set_option linter.unusedSimpArgs false
mutual
def w8_RulesNothing.j0 : Nat → ByteArray → ByteArray → ByteArray → Bool → Option (Bool)
 | 0, _, _, _, _ => none
 | k + 1, x0, x1, x2, x34 => if x34 = true then ((w8_awake.f k).bind fun t243 => (some t243)) else (w8_RulesNothing.l0 k x0 x1 x2 (⟨#[]⟩ : ByteArray) 0)
def w8_RulesNothing.l0 : Nat → ByteArray → ByteArray → ByteArray → ByteArray → Int → Option (Bool)
 | 0, _, _, _, _, _ => none
 | k + 1, x0, x1, x2, x7, x8 => if x8 < (x1.size : Int) then (if 0 ≤ x8 then (if (bt x1 x8) = 10 then (w8_RulesNothing.l0 k x0 x1 x2 x7 (wrap64 (x8 + 1))) else (if x8 ≤ (wrap64 (x8 + 1)) then (if (wrap64 (x8 + 1)) ≤ (x1.size : Int) then (if x7.size + (x1.extract (x8 : Int).toNat ((wrap64 (x8 + 1)) : Int).toNat).size ≤ 9223372036854775807 then (w8_RulesNothing.l0 k x0 x1 x2 (x7 ++ (x1.extract (x8 : Int).toNat ((wrap64 (x8 + 1)) : Int).toNat)) (wrap64 (x8 + 1))) else (none)) else (none)) else (none))) else (none)) else ((rules_Parse.f x0).bind fun bt244 => (if 1 + x7.size ≤ 9223372036854775807 then (if ((⟨#[35]⟩ : ByteArray) ++ x7).size + 1 ≤ 9223372036854775807 then (if (((⟨#[35]⟩ : ByteArray) ++ x7) ++ (⟨#[10]⟩ : ByteArray)).size + x0.size ≤ 9223372036854775807 then ((rules_Parse.f ((((⟨#[35]⟩ : ByteArray) ++ x7) ++ (⟨#[10]⟩ : ByteArray)) ++ x0)).bind fun bt249 => (if 1 + x0.size ≤ 9223372036854775807 then ((rules_Parse.f ((⟨#[10]⟩ : ByteArray) ++ x0)).bind fun bt254 => (if bt244.2.2 = bt249.2.2 then (if bt244.2.2 = bt254.2.2 then ((r8_Unlined.f bt244.1).bind fun t259 => ((r8_Unlined.f bt249.1).bind fun t262 => ((r8_Same.f k t259 t262).bind fun t265 => (if t265 = true then ((r8_Same.f k bt249.1 bt254.1).bind fun t266 => (w8_RulesNothing.j2 k x0 x2 bt244.1 bt244.2.1 bt244.2.2 bt249.1 bt249.2.1 bt254.2.1 (!t266))) else (w8_RulesNothing.j2 k x0 x2 bt244.1 bt244.2.1 bt244.2.2 bt249.1 bt249.2.1 bt254.2.1 true))))) else (w8_RulesNothing.j2 k x0 x2 bt244.1 bt244.2.1 bt244.2.2 bt249.1 bt249.2.1 bt254.2.1 true)) else (w8_RulesNothing.j2 k x0 x2 bt244.1 bt244.2.1 bt244.2.2 bt249.1 bt249.2.1 bt254.2.1 true))) else (none))) else (none)) else (none)) else (none)))
def w8_RulesNothing.j2 : Nat → ByteArray → ByteArray → List (S47) → Int → Int → List (S47) → Int → Int → Bool → Option (Bool)
 | 0, _, _, _, _, _, _, _, _, _ => none
 | k + 1, x0, x2, x9, x10, x11, x12, x13, x16, x97 => if x97 = true then (some false) else (w8_RulesNothing.l1 k x0 x2 x9 x10 x11 x12 x13 x16 0)
def w8_RulesNothing.l1 : Nat → ByteArray → ByteArray → List (S47) → Int → Int → List (S47) → Int → Int → Int → Option (Bool)
 | 0, _, _, _, _, _, _, _, _, _ => none
 | k + 1, x0, x2, x9, x10, x11, x12, x13, x16, x18 => if x18 < (x9.length : Int) then (if 0 ≤ x18 then (if x18 < (x12.length : Int) then (if ((rd_T47 x12 x18).f4) = (wrap64 (((rd_T47 x9 x18).f4) + 1)) then (w8_RulesNothing.l1 k x0 x2 x9 x10 x11 x12 x13 x16 (wrap64 (x18 + 1))) else (some false)) else (none)) else (none)) else (if x11 = 0 then (if x10 = 0 then (if x13 = 0 then (if x16 = 0 then ((w8_awake.f k).bind fun t269 => (some t269)) else (some false)) else (some false)) else (some false)) else (if x0.size + 1 ≤ 9223372036854775807 then (if (x0 ++ (⟨#[10]⟩ : ByteArray)).size + x2.size ≤ 9223372036854775807 then ((rules_Parse.f ((x0 ++ (⟨#[10]⟩ : ByteArray)) ++ x2)).bind fun bt270 => (if x13 = (wrap64 (x10 + 1)) then (if x16 = (wrap64 (x10 + 1)) then (if bt270.2.2 = x11 then (if bt270.2.1 = x10 then (if (bt270.1.length : Int) = 0 then ((w8_awake.f k).bind fun t275 => (some t275)) else (some false)) else (some false)) else (some false)) else (some false)) else (some false))) else (none)) else (none)))
end
def w8_RulesNothing.f (k : Nat) (a0 : ByteArray) (a1 : ByteArray) (a2 : ByteArray) : Option (Bool) := if (a0.size : Int) > 3000 then (w8_RulesNothing.j0 k a0 a1 a2 true) else (if (a1.size : Int) > 200 then (w8_RulesNothing.j0 k a0 a1 a2 true) else (w8_RulesNothing.j0 k a0 a1 a2 (decide ((a2.size : Int) > 200))))
theorem w8_RulesNothing.mono_l : ∀ k, (∀ y0 y1 y2 y3, LeO (w8_RulesNothing.j0 k y0 y1 y2 y3) (w8_RulesNothing.j0 (k + 1) y0 y1 y2 y3)) ∧ (∀ y0 y1 y2 y3 y4, LeO (w8_RulesNothing.l0 k y0 y1 y2 y3 y4) (w8_RulesNothing.l0 (k + 1) y0 y1 y2 y3 y4)) ∧ (∀ y0 y1 y2 y3 y4 y5 y6 y7 y8, LeO (w8_RulesNothing.j2 k y0 y1 y2 y3 y4 y5 y6 y7 y8) (w8_RulesNothing.j2 (k + 1) y0 y1 y2 y3 y4 y5 y6 y7 y8)) ∧ (∀ y0 y1 y2 y3 y4 y5 y6 y7 y8, LeO (w8_RulesNothing.l1 k y0 y1 y2 y3 y4 y5 y6 y7 y8) (w8_RulesNothing.l1 (k + 1) y0 y1 y2 y3 y4 y5 y6 y7 y8))
 | 0 => ⟨fun _ _ _ _ r h => by simp [w8_RulesNothing.j0] at h, fun _ _ _ _ _ r h => by simp [w8_RulesNothing.l0] at h, fun _ _ _ _ _ _ _ _ _ r h => by simp [w8_RulesNothing.j2] at h, fun _ _ _ _ _ _ _ _ _ r h => by simp [w8_RulesNothing.l1] at h⟩
 | k + 1 => by
  obtain ⟨ih0, ih1, ih2, ih3⟩ := w8_RulesNothing.mono_l k
  refine ⟨?_, ?_, ?_, ?_⟩
  ·
   intro y0 y1 y2 y3
   unfold w8_RulesNothing.j0
   repeat' first
   | (with_reducible exact ih0 _ _ _ _)
   | (with_reducible exact ih1 _ _ _ _ _)
   | (with_reducible exact ih2 _ _ _ _ _ _ _ _ _)
   | (with_reducible exact ih3 _ _ _ _ _ _ _ _ _)
   | (with_reducible exact w8_awake.mono _)
   | (with_reducible exact r8_Same.mono _ _ _)
   | (with_reducible exact LeO.refl _)
   | (with_reducible exact LeO.none _)
   | (with_reducible refine LeO.ite ?_ ?_)
   | (with_reducible refine LeO.bind ?_ (fun _ => ?_))
   | exact ih0 _ _ _ _
   | exact ih1 _ _ _ _ _
   | exact ih2 _ _ _ _ _ _ _ _ _
   | exact ih3 _ _ _ _ _ _ _ _ _
   | exact w8_awake.mono _
   | exact r8_Same.mono _ _ _
   | exact LeO.none _
   | refine LeO.ite ?_ ?_
   | refine LeO.bind ?_ (fun _ => ?_)
  ·
   intro y0 y1 y2 y3 y4
   unfold w8_RulesNothing.l0
   repeat' first
   | (with_reducible exact ih0 _ _ _ _)
   | (with_reducible exact ih1 _ _ _ _ _)
   | (with_reducible exact ih2 _ _ _ _ _ _ _ _ _)
   | (with_reducible exact ih3 _ _ _ _ _ _ _ _ _)
   | (with_reducible exact w8_awake.mono _)
   | (with_reducible exact r8_Same.mono _ _ _)
   | (with_reducible exact LeO.refl _)
   | (with_reducible exact LeO.none _)
   | (with_reducible refine LeO.ite ?_ ?_)
   | (with_reducible refine LeO.bind ?_ (fun _ => ?_))
   | exact ih0 _ _ _ _
   | exact ih1 _ _ _ _ _
   | exact ih2 _ _ _ _ _ _ _ _ _
   | exact ih3 _ _ _ _ _ _ _ _ _
   | exact w8_awake.mono _
   | exact r8_Same.mono _ _ _
   | exact LeO.none _
   | refine LeO.ite ?_ ?_
   | refine LeO.bind ?_ (fun _ => ?_)
  ·
   intro y0 y1 y2 y3 y4 y5 y6 y7 y8
   unfold w8_RulesNothing.j2
   repeat' first
   | (with_reducible exact ih0 _ _ _ _)
   | (with_reducible exact ih1 _ _ _ _ _)
   | (with_reducible exact ih2 _ _ _ _ _ _ _ _ _)
   | (with_reducible exact ih3 _ _ _ _ _ _ _ _ _)
   | (with_reducible exact w8_awake.mono _)
   | (with_reducible exact r8_Same.mono _ _ _)
   | (with_reducible exact LeO.refl _)
   | (with_reducible exact LeO.none _)
   | (with_reducible refine LeO.ite ?_ ?_)
   | (with_reducible refine LeO.bind ?_ (fun _ => ?_))
   | exact ih0 _ _ _ _
   | exact ih1 _ _ _ _ _
   | exact ih2 _ _ _ _ _ _ _ _ _
   | exact ih3 _ _ _ _ _ _ _ _ _
   | exact w8_awake.mono _
   | exact r8_Same.mono _ _ _
   | exact LeO.none _
   | refine LeO.ite ?_ ?_
   | refine LeO.bind ?_ (fun _ => ?_)
  ·
   intro y0 y1 y2 y3 y4 y5 y6 y7 y8
   unfold w8_RulesNothing.l1
   repeat' first
   | (with_reducible exact ih0 _ _ _ _)
   | (with_reducible exact ih1 _ _ _ _ _)
   | (with_reducible exact ih2 _ _ _ _ _ _ _ _ _)
   | (with_reducible exact ih3 _ _ _ _ _ _ _ _ _)
   | (with_reducible exact w8_awake.mono _)
   | (with_reducible exact r8_Same.mono _ _ _)
   | (with_reducible exact LeO.refl _)
   | (with_reducible exact LeO.none _)
   | (with_reducible refine LeO.ite ?_ ?_)
   | (with_reducible refine LeO.bind ?_ (fun _ => ?_))
   | exact ih0 _ _ _ _
   | exact ih1 _ _ _ _ _
   | exact ih2 _ _ _ _ _ _ _ _ _
   | exact ih3 _ _ _ _ _ _ _ _ _
   | exact w8_awake.mono _
   | exact r8_Same.mono _ _ _
   | exact LeO.none _
   | refine LeO.ite ?_ ?_
   | refine LeO.bind ?_ (fun _ => ?_)
theorem w8_RulesNothing.mono : ∀ a0 a1 a2 k, LeO (w8_RulesNothing.f k a0 a1 a2) (w8_RulesNothing.f (k + 1) a0 a1 a2) := by
 intro a0 a1 a2 k
 obtain ⟨ih0, ih1, ih2, ih3⟩ := w8_RulesNothing.mono_l k
 unfold w8_RulesNothing.f
 repeat' first
   | (with_reducible exact ih0 _ _ _ _)
   | (with_reducible exact ih1 _ _ _ _ _)
   | (with_reducible exact ih2 _ _ _ _ _ _ _ _ _)
   | (with_reducible exact ih3 _ _ _ _ _ _ _ _ _)
   | (with_reducible exact w8_awake.mono _)
   | (with_reducible exact r8_Same.mono _ _ _)
   | (with_reducible exact LeO.refl _)
   | (with_reducible exact LeO.none _)
   | (with_reducible refine LeO.ite ?_ ?_)
   | (with_reducible refine LeO.bind ?_ (fun _ => ?_))
   | exact ih0 _ _ _ _
   | exact ih1 _ _ _ _ _
   | exact ih2 _ _ _ _ _ _ _ _ _
   | exact ih3 _ _ _ _ _ _ _ _ _
   | exact w8_awake.mono _
   | exact r8_Same.mono _ _ _
   | exact LeO.none _
   | refine LeO.ite ?_ ?_
   | refine LeO.bind ?_ (fun _ => ?_)
set_option maxHeartbeats 8000000 in
set_option maxRecDepth 100000 in
theorem w8_RulesNothing.calls (k : Nat) (a0 : ByteArray) (a1 : ByteArray) (a2 : ByteArray) (r : Bool) (w : World) (h : w8_RulesNothing.f k a0 a1 a2 = some r) (hT0 : r = true) :
  Calls Tryz.prog 6 #[.string a0, .string a1, .string a2] w fun e w' => e = .returned (.bool r) ∧ Below w.heap.size w w' := by
 have HB := aK (Below.refl w.heap.size w)
 have H : (if (a0.size : Int) > 3000 then (w8_RulesNothing.j0 k a0 a1 a2 true) else (if (a1.size : Int) > 200 then (w8_RulesNothing.j0 k a0 a1 a2 true) else (w8_RulesNothing.j0 k a0 a1 a2 (decide ((a2.size : Int) > 200))))) = some r := h
 clear h
 have hT := aK hT0
 clear hT0
 have HC4 := aK H
 clear H
 go_enter Tryz.func6, Tryz.ntmps6
 go_upto_region 1 with (fail)
 repeat (go_quiet (fail); go_upto_region 1 with (fail))
 go_cut [34] (fun v34 wc => ∃ (kq : Nat) (x34_3 : Bool), v34 = .bool x34_3 ∧ Aside0 (w8_RulesNothing.j0 kq a0 a1 a2 x34_3 = some r) ∧ Aside0 (kq ≤ k) ∧ Aside0 (Below w.heap.size w wc))
 case first =>
  have H := HC4.out
  clear HC4
  by_cases c5 : (a0.size : Int) > 3000
  ·
   rw [if_pos c5] at H
   have c5b0 : decide (3000 < (a0.size : Int)) = true := decide_eq_true c5
   have c5b1 : decide (3000 < a0.size) = true := decide_eq_true (by omega)
   clear c5
   (first | rw [c5b0] | (simp only [i64_w, i32_w]; rw [c5b0]) | skip)
   have H' := aK H
   clear H
   go_wp2
   repeat (go_quiet (fail); try go_wp2)
   go_meet
   case rel => exact ⟨_, (true), (by first | rfl | (simp; done) | (simp [*]; done)), H', ⟨by first | omega | exact Nat.le_refl _⟩, ⟨by repeat (first | (with_reducible first | exact HB.out | apply bAl | apply pbD | apply bD1) | exact HB.out)⟩⟩
  ·
   rw [if_neg c5] at H
   have c5b0 : decide (3000 < (a0.size : Int)) = false := decide_eq_false c5
   have c5b1 : decide (3000 < a0.size) = false := decide_eq_false (by omega)
   clear c5
   (first | rw [c5b0] | (simp only [i64_w, i32_w]; rw [c5b0]) | skip)
   by_cases c6 : (a1.size : Int) > 200
   ·
    rw [if_pos c6] at H
    have c6b0 : decide (200 < (a1.size : Int)) = true := decide_eq_true c6
    have c6b1 : decide (200 < a1.size) = true := decide_eq_true (by omega)
    clear c6
    have H' := aK H
    clear H
    go_wp2
    repeat (go_quiet (fail); try go_wp2)
    go_meet
    case rel => exact ⟨_, (true), (by first | rfl | (simp; done) | (simp [*]; done)), H', ⟨by first | omega | exact Nat.le_refl _⟩, ⟨by repeat (first | (with_reducible first | exact HB.out | apply bAl | apply pbD | apply bD1) | exact HB.out)⟩⟩
   ·
    rw [if_neg c6] at H
    have c6b0 : decide (200 < (a1.size : Int)) = false := decide_eq_false c6
    have c6b1 : decide (200 < a1.size) = false := decide_eq_false (by omega)
    clear c6
    have H' := aK H
    clear H
    go_wp2
    repeat (go_quiet (fail); try go_wp2)
    go_meet
    case rel => exact ⟨_, (decide ((a2.size : Int) > 200)), (by first | rfl | (simp; done) | (simp [*]; done)), H', ⟨by first | omega | exact Nat.le_refl _⟩, ⟨by repeat (first | (with_reducible first | exact HB.out | apply bAl | apply pbD | apply bD1) | exact HB.out)⟩⟩
 case rest =>
  clear HC4
  try clear p2
  try clear c5
  try clear c5b0
  try clear c5b1
  try clear c6
  try clear c6b0
  try clear c6b1
  obtain ⟨kq, x34_3, rfl, HA, HJ3, HB⟩ := hcut
  cases kq with
  | zero => exact absurd HA.out (by simp [w8_RulesNothing.j0])
  | succ kj3 =>
   have H := HA.out
   clear HA
   simp only [w8_RulesNothing.j0] at H
   by_cases c7 : x34_3 = true
   ·
    subst c7
    have H1 : ((w8_awake.f kj3).bind fun t243 => (some t243)) = some r := by rw [if_pos rfl] at H; exact H
    clear H
    have H := H1
    clear H1
    replace H := oB H
    obtain ⟨t243, A80, H⟩ := H
    replace H : (some t243) = some r := H
    have A8 := aK A80
    clear A80
    obtain rfl := oI H
    go_wp2_with (first | (go_at_call 13; (with_reducible refine (w8_awake.calls kj3  t243 _ A8.out).mono ?_); rintro e w9 ⟨rfl, hb⟩; have n0_ := aK (bSp (by repeat (first | (with_reducible first | exact HB.out | apply bAl | apply pbD | apply bD1) | exact HB.out)) hb); clear HB; have HB := n0_; clear n0_; (try clear hb); (try clear hb2); (try clear hk); (try clear hi)))
    repeat (go_quiet (first | (go_at_call 13; (with_reducible refine (w8_awake.calls kj3  t243 _ A8.out).mono ?_); rintro e w9 ⟨rfl, hb⟩; have n0_ := aK (bSp (by repeat (first | (with_reducible first | exact HB.out | apply bAl | apply pbD | apply bD1) | exact HB.out)) hb); clear HB; have HB := n0_; clear n0_; (try clear hb); (try clear hb2); (try clear hk); (try clear hi))); try go_wp2_with (first | (go_at_call 13; (with_reducible refine (w8_awake.calls kj3  t243 _ A8.out).mono ?_); rintro e w9 ⟨rfl, hb⟩; have n0_ := aK (bSp (by repeat (first | (with_reducible first | exact HB.out | apply bAl | apply pbD | apply bD1) | exact HB.out)) hb); clear HB; have HB := n0_; clear n0_; (try clear hb); (try clear hb2); (try clear hk); (try clear hi))))
    go_ret
    exact ⟨by first | rfl | (simp [eWn, eWs] <;> rfl) | (simp [*, eWn, eWs] <;> rfl), by repeat (first | (with_reducible first | exact HB.out | apply bAl | apply pbD | apply bD1) | exact HB.out)⟩
   ·
    replace c7 := Bool.eq_false_iff.mpr c7
    subst c7
    have H1 : (w8_RulesNothing.l0 kj3 a0 a1 a2 (⟨#[]⟩ : ByteArray) 0) = some r := by rw [if_neg (show ¬ (false = true) by decide)] at H; exact H
    clear H
    have H := H1
    clear H1
    have H' := aK H
    clear H
    go_wp2
    repeat (go_quiet (fail); try go_wp2)
    go_loopg [7, 8] kj3 (fun kq v7 v8 w' => ∃ (x7_2 : ByteArray) (x8_2 : Int), v7 = .string x7_2 ∧ v8 = .int .i64 x8_2 ∧ Aside0 (w8_RulesNothing.l0 kq a0 a1 a2 x7_2 x8_2 = some r) ∧ Aside0 (kq ≤ kj3) ∧ Aside0 (Below w.heap.size w w'))
    case atStart => exact ⟨((⟨#[]⟩ : ByteArray)), (0), (by first | rfl | (simp; done) | (simp [*]; done)), (by first | rfl | (simp; done) | (simp [*]; done)), H', ⟨Nat.le_refl _⟩, ⟨by repeat (first | (with_reducible first | exact HB.out | apply bAl | apply pbD | apply bD1) | exact HB.out)⟩⟩
    case round =>
     clear H'
     try clear p2
     try clear c5
     try clear c5b0
     try clear c5b1
     try clear c6
     try clear c6b0
     try clear c6b1
     try clear c7
     try clear p2
     obtain ⟨x7_2, x8_2, rfl, rfl, HA, HK2, HB⟩ := hrel
     cases gk with
     | zero => exact absurd HA.out (by simp [w8_RulesNothing.l0])
     | succ k2 =>
      have H := HA.out
      clear HA
      simp only [w8_RulesNothing.l0] at H
      by_cases c10 : x8_2 < (a1.size : Int)
      ·
       rw [if_pos c10] at H
       have c10b0 : decide (x8_2 < (a1.size : Int)) = true := decide_eq_true c10
       clear c10
       by_cases c11 : 0 ≤ x8_2
       ·
        rw [if_pos c11] at H
        have c11b0 : decide (0 ≤ x8_2) = true := decide_eq_true c11
        clear c11
        by_cases c13 : (bt a1 x8_2) = 10
        ·
         rw [if_pos c13] at H
         have c13b0 : ((bt a1 x8_2) == 10) = true := beq_iff_eq.mpr c13
         have c13b1 : ((bt a1 x8_2) != 10) = false := bne_eq_false_iff_eq.mpr c13
         clear c13
         have H' := aK H
         clear H
         have p12 : 0 ≤ (x8_2 : Int) := odT (by first | (with_reducible assumption) | assumption)
         have q12 : x8_2 < (a1.size : Int) := odT (by first | (with_reducible assumption) | assumption)
         have hx12 := bt_at a1 x8_2
         replace p12 := eq_true p12
         replace q12 := eq_true q12
         go_wp2
         repeat (go_quiet (fail); try go_wp2)
         go_roundg k2
         case measure => have := HJ3.out; have := HK2.out; omega
         case rel => exact ⟨(x7_2), (wrap64 (x8_2 + 1)), (by first | rfl | (simp; done) | (simp [*]; done)), (by first | rfl | (simp; done) | (simp [*]; done)), H', ⟨by have := HJ3.out; have := HK2.out; omega⟩, ⟨by repeat (first | (with_reducible first | exact HB.out | apply bAl | apply pbD | apply bD1) | exact HB.out)⟩⟩
        ·
         rw [if_neg c13] at H
         have c13b0 : ((bt a1 x8_2) == 10) = false := beq_eq_false_iff_ne.mpr c13
         have c13b1 : ((bt a1 x8_2) != 10) = true := bne_iff_ne.mpr c13
         have c14b0 := eq_true (odT (by first | (with_reducible assumption) | assumption) : 0 ≤ x8_2)
         by_cases c15 : x8_2 ≤ (wrap64 (x8_2 + 1))
         ·
          rw [if_pos c15] at H
          have c15b0 := eq_true c15
          have c15b1 : decide (x8_2 ≤ (wrap64 (x8_2 + 1))) = true := decide_eq_true c15
          by_cases c16 : (wrap64 (x8_2 + 1)) ≤ (a1.size : Int)
          ·
           rw [if_pos c16] at H
           have c16b0 := eq_true c16
           have c16b1 : decide ((wrap64 (x8_2 + 1)) ≤ (a1.size : Int)) = true := decide_eq_true c16
           by_cases c17 : x7_2.size + (a1.extract (x8_2 : Int).toNat ((wrap64 (x8_2 + 1)) : Int).toNat).size ≤ 9223372036854775807
           ·
            rw [if_pos c17] at H
            have c17b0 := eq_true c17
            have c17b1 : decide (x7_2.size + (a1.extract (x8_2 : Int).toNat ((wrap64 (x8_2 + 1)) : Int).toNat).size ≤ 9223372036854775807) = true := decide_eq_true c17
            try have c17b2 : (9223372036854775807 < x7_2.size + (a1.extract (x8_2 : Int).toNat ((wrap64 (x8_2 + 1)) : Int).toNat).size) = False := eq_false (Nat.not_lt.2 c17)
            have H' := aK H
            clear H
            have p12 : 0 ≤ (x8_2 : Int) := odT (by first | (with_reducible assumption) | assumption)
            have q12 : x8_2 < (a1.size : Int) := odT (by first | (with_reducible assumption) | assumption)
            have hx12 := bt_at a1 x8_2
            replace p12 := eq_true p12
            replace q12 := eq_true q12
            go_wp2
            repeat (go_quiet (fail); try go_wp2)
            go_roundg k2
            case measure => have := HJ3.out; have := HK2.out; omega
            case rel => exact ⟨(x7_2 ++ (a1.extract (x8_2 : Int).toNat ((wrap64 (x8_2 + 1)) : Int).toNat)), (wrap64 (x8_2 + 1)), (by first | rfl | (simp; done) | (simp [*]; done)), (by first | rfl | (simp; done) | (simp [*]; done)), H', ⟨by have := HJ3.out; have := HK2.out; omega⟩, ⟨by repeat (first | (with_reducible first | exact HB.out | apply bAl | apply pbD | apply bD1) | exact HB.out)⟩⟩
           ·
            rw [if_neg c17] at H
            exact absurd H (by simp)
          ·
           rw [if_neg c16] at H
           exact absurd H (by simp)
         ·
          rw [if_neg c15] at H
          exact absurd H (by simp)
       ·
        rw [if_neg c11] at H
        exact absurd H (by simp)
      ·
       rw [if_neg c10] at H
       have c10b0 : decide (x8_2 < (a1.size : Int)) = false := decide_eq_false c10
       clear c10
       replace H := oB H
       obtain ⟨⟨t244, t245, t246⟩, A180, H⟩ := H
       try dsimp only at H
       have A18 := aK A180
       clear A180
       by_cases c19 : 1 + x7_2.size ≤ 9223372036854775807
       ·
        rw [if_pos c19] at H
        have c19b0 := eq_true c19
        have c19b1 : decide (1 + x7_2.size ≤ 9223372036854775807) = true := decide_eq_true c19
        try have c19b2 : (9223372036854775807 < 1 + x7_2.size) = False := eq_false (Nat.not_lt.2 c19)
        by_cases c20 : ((⟨#[35]⟩ : ByteArray) ++ x7_2).size + 1 ≤ 9223372036854775807
        ·
         rw [if_pos c20] at H
         have c20b0 := eq_true c20
         have c20b1 : decide (((⟨#[35]⟩ : ByteArray) ++ x7_2).size + 1 ≤ 9223372036854775807) = true := decide_eq_true c20
         try have c20b2 : (9223372036854775807 < ((⟨#[35]⟩ : ByteArray) ++ x7_2).size + 1) = False := eq_false (Nat.not_lt.2 c20)
         try have c20b2r : (9223372036854775807 < 1 + x7_2.size + 1) = False := (by have h_ := c20; simp only [ByteArray.size_append] at h_; exact eq_false (Nat.not_lt.2 h_))
         by_cases c21 : (((⟨#[35]⟩ : ByteArray) ++ x7_2) ++ (⟨#[10]⟩ : ByteArray)).size + a0.size ≤ 9223372036854775807
         ·
          rw [if_pos c21] at H
          have c21b0 := eq_true c21
          have c21b1 : decide ((((⟨#[35]⟩ : ByteArray) ++ x7_2) ++ (⟨#[10]⟩ : ByteArray)).size + a0.size ≤ 9223372036854775807) = true := decide_eq_true c21
          try have c21b2 : (9223372036854775807 < (((⟨#[35]⟩ : ByteArray) ++ x7_2) ++ (⟨#[10]⟩ : ByteArray)).size + a0.size) = False := eq_false (Nat.not_lt.2 c21)
          try have c21b2r : (9223372036854775807 < 1 + x7_2.size + 1 + a0.size) = False := (by have h_ := c21; simp only [ByteArray.size_append] at h_; exact eq_false (Nat.not_lt.2 h_))
          replace H := oB H
          obtain ⟨⟨t249, t250, t251⟩, A220, H⟩ := H
          try dsimp only at H
          have A22 := aK A220
          clear A220
          by_cases c23 : 1 + a0.size ≤ 9223372036854775807
          ·
           rw [if_pos c23] at H
           have c23b0 := eq_true c23
           have c23b1 : decide (1 + a0.size ≤ 9223372036854775807) = true := decide_eq_true c23
           try have c23b2 : (9223372036854775807 < 1 + a0.size) = False := eq_false (Nat.not_lt.2 c23)
           replace H := oB H
           obtain ⟨⟨t254, t255, t256⟩, A240, H⟩ := H
           try dsimp only at H
           have A24 := aK A240
           clear A240
           have HC25 := aK H
           clear H
           go_upto_region 12 with (first | (go_at_call 14; (with_reducible refine (rules_Parse.calls a0 t244 t245 t246 _ A18.out).mono ?_); rintro e w26 ⟨v247, rfl, ho0, hb⟩; have n0_ := aK (Kd.R_lower ho0 (bSz (by repeat (first | (with_reducible first | exact HB.out | apply bAl | apply pbD | apply bD1) | exact HB.out)))); have n1_ := aK (bSp (by repeat (first | (with_reducible first | exact HB.out | apply bAl | apply pbD | apply bD1) | exact HB.out)) hb); clear HB; have HO248 := n0_; have HB := n1_; clear n0_ n1_; (try clear hb); (try clear hb2); (try clear hk); (try clear hi); (try clear ho0)) | (go_at_call 14; (with_reducible refine (rules_Parse.calls ((((⟨#[35]⟩ : ByteArray) ++ x7_2) ++ (⟨#[10]⟩ : ByteArray)) ++ a0) t249 t250 t251 _ A22.out).mono ?_); rintro e w27 ⟨v252, rfl, ho0, hb⟩; have n0_ := aK (Kd.R_elder' (by (with_reducible repeat (first | apply Kd.R_alloc | apply Kd.R_drewN | apply Kd.R_drew)); exact HO248.out) (Kd.R_base ho0) hb); have n1_ := aK (Kd.R_lower (Kd.R_new' ho0 (Kd.R_lt (by (with_reducible repeat (first | apply Kd.R_alloc | apply Kd.R_drewN | apply Kd.R_drew)); exact HO248.out))) (bSz (by repeat (first | (with_reducible first | exact HB.out | apply bAl | apply pbD | apply bD1) | exact HB.out)))); have n2_ := aK (bSp (by repeat (first | (with_reducible first | exact HB.out | apply bAl | apply pbD | apply bD1) | exact HB.out)) hb); clear HO248; clear HB; have HO248 := n0_; have HO253 := n1_; have HB := n2_; clear n0_ n1_ n2_; (try clear hb); (try clear hb2); (try clear hk); (try clear hi); (try clear ho0)) | (go_at_call 14; (with_reducible refine (rules_Parse.calls ((⟨#[10]⟩ : ByteArray) ++ a0) t254 t255 t256 _ A24.out).mono ?_); rintro e w28 ⟨v257, rfl, ho0, hb⟩; have n0_ := aK (Kd.R_elder' (by (with_reducible repeat (first | apply Kd.R_alloc | apply Kd.R_drewN | apply Kd.R_drew)); exact HO248.out) (Kd.R_base ho0) hb); have n1_ := aK (Kd.R_elder' (by (with_reducible repeat (first | apply Kd.R_alloc | apply Kd.R_drewN | apply Kd.R_drew)); exact HO253.out) (Kd.R_base ho0) hb); have n2_ := aK (Kd.R_lower (Kd.R_new' (Kd.R_new' ho0 (Kd.R_lt (by (with_reducible repeat (first | apply Kd.R_alloc | apply Kd.R_drewN | apply Kd.R_drew)); exact HO248.out))) (Kd.R_lt (by (with_reducible repeat (first | apply Kd.R_alloc | apply Kd.R_drewN | apply Kd.R_drew)); exact HO253.out))) (bSz (by repeat (first | (with_reducible first | exact HB.out | apply bAl | apply pbD | apply bD1) | exact HB.out)))); have n3_ := aK (bSp (by repeat (first | (with_reducible first | exact HB.out | apply bAl | apply pbD | apply bD1) | exact HB.out)) hb); clear HO248; clear HO253; clear HB; have HO248 := n0_; have HO253 := n1_; have HO258 := n2_; have HB := n3_; clear n0_ n1_ n2_ n3_; (try clear hb); (try clear hb2); (try clear hk); (try clear hi); (try clear ho0)))
           repeat (go_quiet (first | (go_at_call 14; (with_reducible refine (rules_Parse.calls a0 t244 t245 t246 _ A18.out).mono ?_); rintro e w26 ⟨v247, rfl, ho0, hb⟩; have n0_ := aK (Kd.R_lower ho0 (bSz (by repeat (first | (with_reducible first | exact HB.out | apply bAl | apply pbD | apply bD1) | exact HB.out)))); have n1_ := aK (bSp (by repeat (first | (with_reducible first | exact HB.out | apply bAl | apply pbD | apply bD1) | exact HB.out)) hb); clear HB; have HO248 := n0_; have HB := n1_; clear n0_ n1_; (try clear hb); (try clear hb2); (try clear hk); (try clear hi); (try clear ho0)) | (go_at_call 14; (with_reducible refine (rules_Parse.calls ((((⟨#[35]⟩ : ByteArray) ++ x7_2) ++ (⟨#[10]⟩ : ByteArray)) ++ a0) t249 t250 t251 _ A22.out).mono ?_); rintro e w27 ⟨v252, rfl, ho0, hb⟩; have n0_ := aK (Kd.R_elder' (by (with_reducible repeat (first | apply Kd.R_alloc | apply Kd.R_drewN | apply Kd.R_drew)); exact HO248.out) (Kd.R_base ho0) hb); have n1_ := aK (Kd.R_lower (Kd.R_new' ho0 (Kd.R_lt (by (with_reducible repeat (first | apply Kd.R_alloc | apply Kd.R_drewN | apply Kd.R_drew)); exact HO248.out))) (bSz (by repeat (first | (with_reducible first | exact HB.out | apply bAl | apply pbD | apply bD1) | exact HB.out)))); have n2_ := aK (bSp (by repeat (first | (with_reducible first | exact HB.out | apply bAl | apply pbD | apply bD1) | exact HB.out)) hb); clear HO248; clear HB; have HO248 := n0_; have HO253 := n1_; have HB := n2_; clear n0_ n1_ n2_; (try clear hb); (try clear hb2); (try clear hk); (try clear hi); (try clear ho0)) | (go_at_call 14; (with_reducible refine (rules_Parse.calls ((⟨#[10]⟩ : ByteArray) ++ a0) t254 t255 t256 _ A24.out).mono ?_); rintro e w28 ⟨v257, rfl, ho0, hb⟩; have n0_ := aK (Kd.R_elder' (by (with_reducible repeat (first | apply Kd.R_alloc | apply Kd.R_drewN | apply Kd.R_drew)); exact HO248.out) (Kd.R_base ho0) hb); have n1_ := aK (Kd.R_elder' (by (with_reducible repeat (first | apply Kd.R_alloc | apply Kd.R_drewN | apply Kd.R_drew)); exact HO253.out) (Kd.R_base ho0) hb); have n2_ := aK (Kd.R_lower (Kd.R_new' (Kd.R_new' ho0 (Kd.R_lt (by (with_reducible repeat (first | apply Kd.R_alloc | apply Kd.R_drewN | apply Kd.R_drew)); exact HO248.out))) (Kd.R_lt (by (with_reducible repeat (first | apply Kd.R_alloc | apply Kd.R_drewN | apply Kd.R_drew)); exact HO253.out))) (bSz (by repeat (first | (with_reducible first | exact HB.out | apply bAl | apply pbD | apply bD1) | exact HB.out)))); have n3_ := aK (bSp (by repeat (first | (with_reducible first | exact HB.out | apply bAl | apply pbD | apply bD1) | exact HB.out)) hb); clear HO248; clear HO253; clear HB; have HO248 := n0_; have HO253 := n1_; have HO258 := n2_; have HB := n3_; clear n0_ n1_ n2_ n3_; (try clear hb); (try clear hb2); (try clear hk); (try clear hi); (try clear ho0))); go_upto_region 12 with (first | (go_at_call 14; (with_reducible refine (rules_Parse.calls a0 t244 t245 t246 _ A18.out).mono ?_); rintro e w26 ⟨v247, rfl, ho0, hb⟩; have n0_ := aK (Kd.R_lower ho0 (bSz (by repeat (first | (with_reducible first | exact HB.out | apply bAl | apply pbD | apply bD1) | exact HB.out)))); have n1_ := aK (bSp (by repeat (first | (with_reducible first | exact HB.out | apply bAl | apply pbD | apply bD1) | exact HB.out)) hb); clear HB; have HO248 := n0_; have HB := n1_; clear n0_ n1_; (try clear hb); (try clear hb2); (try clear hk); (try clear hi); (try clear ho0)) | (go_at_call 14; (with_reducible refine (rules_Parse.calls ((((⟨#[35]⟩ : ByteArray) ++ x7_2) ++ (⟨#[10]⟩ : ByteArray)) ++ a0) t249 t250 t251 _ A22.out).mono ?_); rintro e w27 ⟨v252, rfl, ho0, hb⟩; have n0_ := aK (Kd.R_elder' (by (with_reducible repeat (first | apply Kd.R_alloc | apply Kd.R_drewN | apply Kd.R_drew)); exact HO248.out) (Kd.R_base ho0) hb); have n1_ := aK (Kd.R_lower (Kd.R_new' ho0 (Kd.R_lt (by (with_reducible repeat (first | apply Kd.R_alloc | apply Kd.R_drewN | apply Kd.R_drew)); exact HO248.out))) (bSz (by repeat (first | (with_reducible first | exact HB.out | apply bAl | apply pbD | apply bD1) | exact HB.out)))); have n2_ := aK (bSp (by repeat (first | (with_reducible first | exact HB.out | apply bAl | apply pbD | apply bD1) | exact HB.out)) hb); clear HO248; clear HB; have HO248 := n0_; have HO253 := n1_; have HB := n2_; clear n0_ n1_ n2_; (try clear hb); (try clear hb2); (try clear hk); (try clear hi); (try clear ho0)) | (go_at_call 14; (with_reducible refine (rules_Parse.calls ((⟨#[10]⟩ : ByteArray) ++ a0) t254 t255 t256 _ A24.out).mono ?_); rintro e w28 ⟨v257, rfl, ho0, hb⟩; have n0_ := aK (Kd.R_elder' (by (with_reducible repeat (first | apply Kd.R_alloc | apply Kd.R_drewN | apply Kd.R_drew)); exact HO248.out) (Kd.R_base ho0) hb); have n1_ := aK (Kd.R_elder' (by (with_reducible repeat (first | apply Kd.R_alloc | apply Kd.R_drewN | apply Kd.R_drew)); exact HO253.out) (Kd.R_base ho0) hb); have n2_ := aK (Kd.R_lower (Kd.R_new' (Kd.R_new' ho0 (Kd.R_lt (by (with_reducible repeat (first | apply Kd.R_alloc | apply Kd.R_drewN | apply Kd.R_drew)); exact HO248.out))) (Kd.R_lt (by (with_reducible repeat (first | apply Kd.R_alloc | apply Kd.R_drewN | apply Kd.R_drew)); exact HO253.out))) (bSz (by repeat (first | (with_reducible first | exact HB.out | apply bAl | apply pbD | apply bD1) | exact HB.out)))); have n3_ := aK (bSp (by repeat (first | (with_reducible first | exact HB.out | apply bAl | apply pbD | apply bD1) | exact HB.out)) hb); clear HO248; clear HO253; clear HB; have HO248 := n0_; have HO253 := n1_; have HO258 := n2_; have HB := n3_; clear n0_ n1_ n2_ n3_; (try clear hb); (try clear hb2); (try clear hk); (try clear hi); (try clear ho0))))
           (try simp only [Act.put, qSa, qS0, qS1])
           go_cut [97] (fun v97 wc => ∃ (kq : Nat) (x97_24 : Bool), v97 = .bool x97_24 ∧ Aside0 (w8_RulesNothing.j2 kq a0 a2 t244 t245 t246 t249 t250 t255 x97_24 = some r) ∧ Aside0 (kq ≤ k2) ∧ Aside0 (Kd.R k47 47 wc w.heap.size (fun k_ => some k_ ≠ (v252 : Value).ownBlock) v247 t244) ∧ Aside0 (Kd.R k47 47 wc w.heap.size (fun k_ => some k_ ≠ (v247 : Value).ownBlock) v252 t249) ∧ Aside0 (Below w.heap.size w wc))
           case first =>
            have H := HC25.out
            clear HC25
            by_cases c29 : t246 = t251
            ·
             rw [if_pos c29] at H
             have c29b0 : (t246 == t251) = true := beq_iff_eq.mpr c29
             have c29b1 : (t246 != t251) = false := bne_eq_false_iff_eq.mpr c29
             clear c29
             (first | rw [c29b0] | (simp only [i64_w, i32_w]; rw [c29b0]) | skip)
             by_cases c30 : t246 = t256
             ·
              rw [if_pos c30] at H
              have c30b0 : (t246 == t256) = true := beq_iff_eq.mpr c30
              have c30b1 : (t246 != t256) = false := bne_eq_false_iff_eq.mpr c30
              clear c30
              replace H := oB H
              obtain ⟨t259, A310, H⟩ := H
              try dsimp only at H
              have A31 := aK A310
              clear A310
              replace H := oB H
              obtain ⟨t262, A320, H⟩ := H
              try dsimp only at H
              have A32 := aK A320
              clear A320
              replace H := oB H
              obtain ⟨t265, A330, H⟩ := H
              try dsimp only at H
              have A33 := aK A330
              clear A330
              by_cases c34 : t265 = true
              ·
               subst c34
               have H1 : ((r8_Same.f k2 t249 t254).bind fun t266 => (w8_RulesNothing.j2 k2 a0 a2 t244 t245 t246 t249 t250 t255 (!t266))) = some r := by rw [if_pos rfl] at H; exact H
               clear H
               have H := H1
               clear H1
               replace H := oB H
               obtain ⟨t266, A350, H⟩ := H
               try dsimp only at H
               have A35 := aK A350
               clear A350
               have H' := aK H
               clear H
               obtain ⟨Ao36, co36, eo36⟩ := Kd.R_slice HO248.out
               subst eo36
               go_wp2_with (first | (go_at_call 19; (with_reducible refine (r8_Unlined.calls _ _ t244 t259 _ ?side1 ?side2 A31.out).mono ?_); (case side1 => repeat (first | exact (Kd.R_reads' HO248.out).2.2 | (with_reducible refine Kd.C_alloc ?_ _) | (with_reducible refine Kd.C_drewN ?_ _) | (with_reducible refine Kd.C_drew ?_))); (case side2 => exact (Kd.R_reads' HO248.out).2.1); rintro e w37 ⟨v260, rfl, ho0, hb⟩; have n0_ := aK (Kd.R_elder' (by (with_reducible repeat (first | apply Kd.R_alloc | apply Kd.R_drewN | apply Kd.R_drew)); exact HO248.out) (Kd.R_base ho0) hb); have n1_ := aK (Kd.R_elder' (by (with_reducible repeat (first | apply Kd.R_alloc | apply Kd.R_drewN | apply Kd.R_drew)); exact HO253.out) (Kd.R_base ho0) hb); have n2_ := aK (Kd.R_elder' (by (with_reducible repeat (first | apply Kd.R_alloc | apply Kd.R_drewN | apply Kd.R_drew)); exact HO258.out) (Kd.R_base ho0) hb); have n3_ := aK (Kd.R_lower (Kd.R_new' (Kd.R_new' (Kd.R_new' ho0 (Kd.R_lt (by (with_reducible repeat (first | apply Kd.R_alloc | apply Kd.R_drewN | apply Kd.R_drew)); exact HO248.out))) (Kd.R_lt (by (with_reducible repeat (first | apply Kd.R_alloc | apply Kd.R_drewN | apply Kd.R_drew)); exact HO253.out))) (Kd.R_lt (by (with_reducible repeat (first | apply Kd.R_alloc | apply Kd.R_drewN | apply Kd.R_drew)); exact HO258.out))) (bSz (by repeat (first | (with_reducible first | exact HB.out | apply bAl | apply pbD | apply bD1) | exact HB.out)))); have n4_ := aK (bSp (by repeat (first | (with_reducible first | exact HB.out | apply bAl | apply pbD | apply bD1) | exact HB.out)) hb); clear HO248; clear HO253; clear HO258; clear HB; have HO248 := n0_; have HO253 := n1_; have HO258 := n2_; have HO261 := n3_; have HB := n4_; clear n0_ n1_ n2_ n3_ n4_; (try clear hb); (try clear hb2); (try clear hk); (try clear hi); (try clear ho0); obtain ⟨Ao38, co38, eo38⟩ := Kd.R_slice HO253.out; subst eo38) | (go_at_call 19; (with_reducible refine (r8_Unlined.calls _ _ t249 t262 _ ?side1 ?side2 A32.out).mono ?_); (case side1 => repeat (first | exact (Kd.R_reads' HO253.out).2.2 | (with_reducible refine Kd.C_alloc ?_ _) | (with_reducible refine Kd.C_drewN ?_ _) | (with_reducible refine Kd.C_drew ?_))); (case side2 => exact (Kd.R_reads' HO253.out).2.1); rintro e w39 ⟨v263, rfl, ho0, hb⟩; have n0_ := aK (Kd.R_elder' (by (with_reducible repeat (first | apply Kd.R_alloc | apply Kd.R_drewN | apply Kd.R_drew)); exact HO248.out) (Kd.R_base ho0) hb); have n1_ := aK (Kd.R_elder' (by (with_reducible repeat (first | apply Kd.R_alloc | apply Kd.R_drewN | apply Kd.R_drew)); exact HO253.out) (Kd.R_base ho0) hb); have n2_ := aK (Kd.R_elder' (by (with_reducible repeat (first | apply Kd.R_alloc | apply Kd.R_drewN | apply Kd.R_drew)); exact HO258.out) (Kd.R_base ho0) hb); have n3_ := aK (Kd.R_elder' (by (with_reducible repeat (first | apply Kd.R_alloc | apply Kd.R_drewN | apply Kd.R_drew)); exact HO261.out) (Kd.R_base ho0) hb); have n4_ := aK (Kd.R_lower (Kd.R_new' (Kd.R_new' (Kd.R_new' (Kd.R_new' ho0 (Kd.R_lt (by (with_reducible repeat (first | apply Kd.R_alloc | apply Kd.R_drewN | apply Kd.R_drew)); exact HO248.out))) (Kd.R_lt (by (with_reducible repeat (first | apply Kd.R_alloc | apply Kd.R_drewN | apply Kd.R_drew)); exact HO253.out))) (Kd.R_lt (by (with_reducible repeat (first | apply Kd.R_alloc | apply Kd.R_drewN | apply Kd.R_drew)); exact HO258.out))) (Kd.R_lt (by (with_reducible repeat (first | apply Kd.R_alloc | apply Kd.R_drewN | apply Kd.R_drew)); exact HO261.out))) (bSz (by repeat (first | (with_reducible first | exact HB.out | apply bAl | apply pbD | apply bD1) | exact HB.out)))); have n5_ := aK (bSp (by repeat (first | (with_reducible first | exact HB.out | apply bAl | apply pbD | apply bD1) | exact HB.out)) hb); clear HO248; clear HO253; clear HO258; clear HO261; clear HB; have HO248 := n0_; have HO253 := n1_; have HO258 := n2_; have HO261 := n3_; have HO264 := n4_; have HB := n5_; clear n0_ n1_ n2_ n3_ n4_ n5_; (try clear hb); (try clear hb2); (try clear hk); (try clear hi); (try clear ho0); obtain ⟨Ao40, co40, eo40⟩ := Kd.R_slice HO261.out; subst eo40; obtain ⟨Ao41, co41, eo41⟩ := Kd.R_slice HO264.out; subst eo41) | (go_at_call 16; (with_reducible refine (r8_Same.calls k2 _ _ t259 _ _ t262 true _ ?side1 ?side2 ?side3 ?side4 A33.out).mono ?_); (case side1 => repeat (first | exact (Kd.R_reads' HO261.out).2.2 | (with_reducible refine Kd.C_alloc ?_ _) | (with_reducible refine Kd.C_drewN ?_ _) | (with_reducible refine Kd.C_drew ?_))); (case side2 => exact (Kd.R_reads' HO261.out).2.1); (case side3 => repeat (first | exact (Kd.R_reads' HO264.out).2.2 | (with_reducible refine Kd.C_alloc ?_ _) | (with_reducible refine Kd.C_drewN ?_ _) | (with_reducible refine Kd.C_drew ?_))); (case side4 => exact (Kd.R_reads' HO264.out).2.1); rintro e w' ⟨rfl, ⟨nd, rfl⟩⟩; (try first | exact ⟨rfl, _, World.drewN_drewN _ _ _⟩ | exact ⟨rfl, _, Eq.trans (World.drewN_drewN _ _ _) (congrArg (World.drewN _) (Nat.add_assoc _ _ _))⟩); obtain ⟨Ao42, co42, eo42⟩ := Kd.R_slice HO258.out; subst eo42) | (go_at_call 16; (with_reducible refine (r8_Same.calls k2 _ _ t249 _ _ t254 t266 _ ?side1 ?side2 ?side3 ?side4 A35.out).mono ?_); (case side1 => repeat (first | exact (Kd.R_reads' HO253.out).2.2 | (with_reducible refine Kd.C_alloc ?_ _) | (with_reducible refine Kd.C_drewN ?_ _) | (with_reducible refine Kd.C_drew ?_))); (case side2 => exact (Kd.R_reads' HO253.out).2.1); (case side3 => repeat (first | exact (Kd.R_reads' HO258.out).2.2 | (with_reducible refine Kd.C_alloc ?_ _) | (with_reducible refine Kd.C_drewN ?_ _) | (with_reducible refine Kd.C_drew ?_))); (case side4 => exact (Kd.R_reads' HO258.out).2.1); rintro e w' ⟨rfl, ⟨nd, rfl⟩⟩; (try first | exact ⟨rfl, _, World.drewN_drewN _ _ _⟩ | exact ⟨rfl, _, Eq.trans (World.drewN_drewN _ _ _) (congrArg (World.drewN _) (Nat.add_assoc _ _ _))⟩)))
               repeat (go_quiet (first | (go_at_call 19; (with_reducible refine (r8_Unlined.calls _ _ t244 t259 _ ?side1 ?side2 A31.out).mono ?_); (case side1 => repeat (first | exact (Kd.R_reads' HO248.out).2.2 | (with_reducible refine Kd.C_alloc ?_ _) | (with_reducible refine Kd.C_drewN ?_ _) | (with_reducible refine Kd.C_drew ?_))); (case side2 => exact (Kd.R_reads' HO248.out).2.1); rintro e w37 ⟨v260, rfl, ho0, hb⟩; have n0_ := aK (Kd.R_elder' (by (with_reducible repeat (first | apply Kd.R_alloc | apply Kd.R_drewN | apply Kd.R_drew)); exact HO248.out) (Kd.R_base ho0) hb); have n1_ := aK (Kd.R_elder' (by (with_reducible repeat (first | apply Kd.R_alloc | apply Kd.R_drewN | apply Kd.R_drew)); exact HO253.out) (Kd.R_base ho0) hb); have n2_ := aK (Kd.R_elder' (by (with_reducible repeat (first | apply Kd.R_alloc | apply Kd.R_drewN | apply Kd.R_drew)); exact HO258.out) (Kd.R_base ho0) hb); have n3_ := aK (Kd.R_lower (Kd.R_new' (Kd.R_new' (Kd.R_new' ho0 (Kd.R_lt (by (with_reducible repeat (first | apply Kd.R_alloc | apply Kd.R_drewN | apply Kd.R_drew)); exact HO248.out))) (Kd.R_lt (by (with_reducible repeat (first | apply Kd.R_alloc | apply Kd.R_drewN | apply Kd.R_drew)); exact HO253.out))) (Kd.R_lt (by (with_reducible repeat (first | apply Kd.R_alloc | apply Kd.R_drewN | apply Kd.R_drew)); exact HO258.out))) (bSz (by repeat (first | (with_reducible first | exact HB.out | apply bAl | apply pbD | apply bD1) | exact HB.out)))); have n4_ := aK (bSp (by repeat (first | (with_reducible first | exact HB.out | apply bAl | apply pbD | apply bD1) | exact HB.out)) hb); clear HO248; clear HO253; clear HO258; clear HB; have HO248 := n0_; have HO253 := n1_; have HO258 := n2_; have HO261 := n3_; have HB := n4_; clear n0_ n1_ n2_ n3_ n4_; (try clear hb); (try clear hb2); (try clear hk); (try clear hi); (try clear ho0); obtain ⟨Ao38, co38, eo38⟩ := Kd.R_slice HO253.out; subst eo38) | (go_at_call 19; (with_reducible refine (r8_Unlined.calls _ _ t249 t262 _ ?side1 ?side2 A32.out).mono ?_); (case side1 => repeat (first | exact (Kd.R_reads' HO253.out).2.2 | (with_reducible refine Kd.C_alloc ?_ _) | (with_reducible refine Kd.C_drewN ?_ _) | (with_reducible refine Kd.C_drew ?_))); (case side2 => exact (Kd.R_reads' HO253.out).2.1); rintro e w39 ⟨v263, rfl, ho0, hb⟩; have n0_ := aK (Kd.R_elder' (by (with_reducible repeat (first | apply Kd.R_alloc | apply Kd.R_drewN | apply Kd.R_drew)); exact HO248.out) (Kd.R_base ho0) hb); have n1_ := aK (Kd.R_elder' (by (with_reducible repeat (first | apply Kd.R_alloc | apply Kd.R_drewN | apply Kd.R_drew)); exact HO253.out) (Kd.R_base ho0) hb); have n2_ := aK (Kd.R_elder' (by (with_reducible repeat (first | apply Kd.R_alloc | apply Kd.R_drewN | apply Kd.R_drew)); exact HO258.out) (Kd.R_base ho0) hb); have n3_ := aK (Kd.R_elder' (by (with_reducible repeat (first | apply Kd.R_alloc | apply Kd.R_drewN | apply Kd.R_drew)); exact HO261.out) (Kd.R_base ho0) hb); have n4_ := aK (Kd.R_lower (Kd.R_new' (Kd.R_new' (Kd.R_new' (Kd.R_new' ho0 (Kd.R_lt (by (with_reducible repeat (first | apply Kd.R_alloc | apply Kd.R_drewN | apply Kd.R_drew)); exact HO248.out))) (Kd.R_lt (by (with_reducible repeat (first | apply Kd.R_alloc | apply Kd.R_drewN | apply Kd.R_drew)); exact HO253.out))) (Kd.R_lt (by (with_reducible repeat (first | apply Kd.R_alloc | apply Kd.R_drewN | apply Kd.R_drew)); exact HO258.out))) (Kd.R_lt (by (with_reducible repeat (first | apply Kd.R_alloc | apply Kd.R_drewN | apply Kd.R_drew)); exact HO261.out))) (bSz (by repeat (first | (with_reducible first | exact HB.out | apply bAl | apply pbD | apply bD1) | exact HB.out)))); have n5_ := aK (bSp (by repeat (first | (with_reducible first | exact HB.out | apply bAl | apply pbD | apply bD1) | exact HB.out)) hb); clear HO248; clear HO253; clear HO258; clear HO261; clear HB; have HO248 := n0_; have HO253 := n1_; have HO258 := n2_; have HO261 := n3_; have HO264 := n4_; have HB := n5_; clear n0_ n1_ n2_ n3_ n4_ n5_; (try clear hb); (try clear hb2); (try clear hk); (try clear hi); (try clear ho0); obtain ⟨Ao40, co40, eo40⟩ := Kd.R_slice HO261.out; subst eo40; obtain ⟨Ao41, co41, eo41⟩ := Kd.R_slice HO264.out; subst eo41) | (go_at_call 16; (with_reducible refine (r8_Same.calls k2 _ _ t259 _ _ t262 true _ ?side1 ?side2 ?side3 ?side4 A33.out).mono ?_); (case side1 => repeat (first | exact (Kd.R_reads' HO261.out).2.2 | (with_reducible refine Kd.C_alloc ?_ _) | (with_reducible refine Kd.C_drewN ?_ _) | (with_reducible refine Kd.C_drew ?_))); (case side2 => exact (Kd.R_reads' HO261.out).2.1); (case side3 => repeat (first | exact (Kd.R_reads' HO264.out).2.2 | (with_reducible refine Kd.C_alloc ?_ _) | (with_reducible refine Kd.C_drewN ?_ _) | (with_reducible refine Kd.C_drew ?_))); (case side4 => exact (Kd.R_reads' HO264.out).2.1); rintro e w' ⟨rfl, ⟨nd, rfl⟩⟩; (try first | exact ⟨rfl, _, World.drewN_drewN _ _ _⟩ | exact ⟨rfl, _, Eq.trans (World.drewN_drewN _ _ _) (congrArg (World.drewN _) (Nat.add_assoc _ _ _))⟩); obtain ⟨Ao42, co42, eo42⟩ := Kd.R_slice HO258.out; subst eo42) | (go_at_call 16; (with_reducible refine (r8_Same.calls k2 _ _ t249 _ _ t254 t266 _ ?side1 ?side2 ?side3 ?side4 A35.out).mono ?_); (case side1 => repeat (first | exact (Kd.R_reads' HO253.out).2.2 | (with_reducible refine Kd.C_alloc ?_ _) | (with_reducible refine Kd.C_drewN ?_ _) | (with_reducible refine Kd.C_drew ?_))); (case side2 => exact (Kd.R_reads' HO253.out).2.1); (case side3 => repeat (first | exact (Kd.R_reads' HO258.out).2.2 | (with_reducible refine Kd.C_alloc ?_ _) | (with_reducible refine Kd.C_drewN ?_ _) | (with_reducible refine Kd.C_drew ?_))); (case side4 => exact (Kd.R_reads' HO258.out).2.1); rintro e w' ⟨rfl, ⟨nd, rfl⟩⟩; (try first | exact ⟨rfl, _, World.drewN_drewN _ _ _⟩ | exact ⟨rfl, _, Eq.trans (World.drewN_drewN _ _ _) (congrArg (World.drewN _) (Nat.add_assoc _ _ _))⟩))); try go_wp2_with (first | (go_at_call 19; (with_reducible refine (r8_Unlined.calls _ _ t244 t259 _ ?side1 ?side2 A31.out).mono ?_); (case side1 => repeat (first | exact (Kd.R_reads' HO248.out).2.2 | (with_reducible refine Kd.C_alloc ?_ _) | (with_reducible refine Kd.C_drewN ?_ _) | (with_reducible refine Kd.C_drew ?_))); (case side2 => exact (Kd.R_reads' HO248.out).2.1); rintro e w37 ⟨v260, rfl, ho0, hb⟩; have n0_ := aK (Kd.R_elder' (by (with_reducible repeat (first | apply Kd.R_alloc | apply Kd.R_drewN | apply Kd.R_drew)); exact HO248.out) (Kd.R_base ho0) hb); have n1_ := aK (Kd.R_elder' (by (with_reducible repeat (first | apply Kd.R_alloc | apply Kd.R_drewN | apply Kd.R_drew)); exact HO253.out) (Kd.R_base ho0) hb); have n2_ := aK (Kd.R_elder' (by (with_reducible repeat (first | apply Kd.R_alloc | apply Kd.R_drewN | apply Kd.R_drew)); exact HO258.out) (Kd.R_base ho0) hb); have n3_ := aK (Kd.R_lower (Kd.R_new' (Kd.R_new' (Kd.R_new' ho0 (Kd.R_lt (by (with_reducible repeat (first | apply Kd.R_alloc | apply Kd.R_drewN | apply Kd.R_drew)); exact HO248.out))) (Kd.R_lt (by (with_reducible repeat (first | apply Kd.R_alloc | apply Kd.R_drewN | apply Kd.R_drew)); exact HO253.out))) (Kd.R_lt (by (with_reducible repeat (first | apply Kd.R_alloc | apply Kd.R_drewN | apply Kd.R_drew)); exact HO258.out))) (bSz (by repeat (first | (with_reducible first | exact HB.out | apply bAl | apply pbD | apply bD1) | exact HB.out)))); have n4_ := aK (bSp (by repeat (first | (with_reducible first | exact HB.out | apply bAl | apply pbD | apply bD1) | exact HB.out)) hb); clear HO248; clear HO253; clear HO258; clear HB; have HO248 := n0_; have HO253 := n1_; have HO258 := n2_; have HO261 := n3_; have HB := n4_; clear n0_ n1_ n2_ n3_ n4_; (try clear hb); (try clear hb2); (try clear hk); (try clear hi); (try clear ho0); obtain ⟨Ao38, co38, eo38⟩ := Kd.R_slice HO253.out; subst eo38) | (go_at_call 19; (with_reducible refine (r8_Unlined.calls _ _ t249 t262 _ ?side1 ?side2 A32.out).mono ?_); (case side1 => repeat (first | exact (Kd.R_reads' HO253.out).2.2 | (with_reducible refine Kd.C_alloc ?_ _) | (with_reducible refine Kd.C_drewN ?_ _) | (with_reducible refine Kd.C_drew ?_))); (case side2 => exact (Kd.R_reads' HO253.out).2.1); rintro e w39 ⟨v263, rfl, ho0, hb⟩; have n0_ := aK (Kd.R_elder' (by (with_reducible repeat (first | apply Kd.R_alloc | apply Kd.R_drewN | apply Kd.R_drew)); exact HO248.out) (Kd.R_base ho0) hb); have n1_ := aK (Kd.R_elder' (by (with_reducible repeat (first | apply Kd.R_alloc | apply Kd.R_drewN | apply Kd.R_drew)); exact HO253.out) (Kd.R_base ho0) hb); have n2_ := aK (Kd.R_elder' (by (with_reducible repeat (first | apply Kd.R_alloc | apply Kd.R_drewN | apply Kd.R_drew)); exact HO258.out) (Kd.R_base ho0) hb); have n3_ := aK (Kd.R_elder' (by (with_reducible repeat (first | apply Kd.R_alloc | apply Kd.R_drewN | apply Kd.R_drew)); exact HO261.out) (Kd.R_base ho0) hb); have n4_ := aK (Kd.R_lower (Kd.R_new' (Kd.R_new' (Kd.R_new' (Kd.R_new' ho0 (Kd.R_lt (by (with_reducible repeat (first | apply Kd.R_alloc | apply Kd.R_drewN | apply Kd.R_drew)); exact HO248.out))) (Kd.R_lt (by (with_reducible repeat (first | apply Kd.R_alloc | apply Kd.R_drewN | apply Kd.R_drew)); exact HO253.out))) (Kd.R_lt (by (with_reducible repeat (first | apply Kd.R_alloc | apply Kd.R_drewN | apply Kd.R_drew)); exact HO258.out))) (Kd.R_lt (by (with_reducible repeat (first | apply Kd.R_alloc | apply Kd.R_drewN | apply Kd.R_drew)); exact HO261.out))) (bSz (by repeat (first | (with_reducible first | exact HB.out | apply bAl | apply pbD | apply bD1) | exact HB.out)))); have n5_ := aK (bSp (by repeat (first | (with_reducible first | exact HB.out | apply bAl | apply pbD | apply bD1) | exact HB.out)) hb); clear HO248; clear HO253; clear HO258; clear HO261; clear HB; have HO248 := n0_; have HO253 := n1_; have HO258 := n2_; have HO261 := n3_; have HO264 := n4_; have HB := n5_; clear n0_ n1_ n2_ n3_ n4_ n5_; (try clear hb); (try clear hb2); (try clear hk); (try clear hi); (try clear ho0); obtain ⟨Ao40, co40, eo40⟩ := Kd.R_slice HO261.out; subst eo40; obtain ⟨Ao41, co41, eo41⟩ := Kd.R_slice HO264.out; subst eo41) | (go_at_call 16; (with_reducible refine (r8_Same.calls k2 _ _ t259 _ _ t262 true _ ?side1 ?side2 ?side3 ?side4 A33.out).mono ?_); (case side1 => repeat (first | exact (Kd.R_reads' HO261.out).2.2 | (with_reducible refine Kd.C_alloc ?_ _) | (with_reducible refine Kd.C_drewN ?_ _) | (with_reducible refine Kd.C_drew ?_))); (case side2 => exact (Kd.R_reads' HO261.out).2.1); (case side3 => repeat (first | exact (Kd.R_reads' HO264.out).2.2 | (with_reducible refine Kd.C_alloc ?_ _) | (with_reducible refine Kd.C_drewN ?_ _) | (with_reducible refine Kd.C_drew ?_))); (case side4 => exact (Kd.R_reads' HO264.out).2.1); rintro e w' ⟨rfl, ⟨nd, rfl⟩⟩; (try first | exact ⟨rfl, _, World.drewN_drewN _ _ _⟩ | exact ⟨rfl, _, Eq.trans (World.drewN_drewN _ _ _) (congrArg (World.drewN _) (Nat.add_assoc _ _ _))⟩); obtain ⟨Ao42, co42, eo42⟩ := Kd.R_slice HO258.out; subst eo42) | (go_at_call 16; (with_reducible refine (r8_Same.calls k2 _ _ t249 _ _ t254 t266 _ ?side1 ?side2 ?side3 ?side4 A35.out).mono ?_); (case side1 => repeat (first | exact (Kd.R_reads' HO253.out).2.2 | (with_reducible refine Kd.C_alloc ?_ _) | (with_reducible refine Kd.C_drewN ?_ _) | (with_reducible refine Kd.C_drew ?_))); (case side2 => exact (Kd.R_reads' HO253.out).2.1); (case side3 => repeat (first | exact (Kd.R_reads' HO258.out).2.2 | (with_reducible refine Kd.C_alloc ?_ _) | (with_reducible refine Kd.C_drewN ?_ _) | (with_reducible refine Kd.C_drew ?_))); (case side4 => exact (Kd.R_reads' HO258.out).2.1); rintro e w' ⟨rfl, ⟨nd, rfl⟩⟩; (try first | exact ⟨rfl, _, World.drewN_drewN _ _ _⟩ | exact ⟨rfl, _, Eq.trans (World.drewN_drewN _ _ _) (congrArg (World.drewN _) (Nat.add_assoc _ _ _))⟩))))
               go_meet
               case rel => exact ⟨_, (!t266), (by first | rfl | (simp; done) | (simp [*]; done)), H', ⟨by have := HJ3.out; have := HK2.out; first | omega | exact Nat.le_refl _⟩, ⟨by (with_reducible repeat (first | apply Kd.R_alloc | apply Kd.R_drewN | apply Kd.R_drew)); exact Kd.R_mono HO248.out (fun _ hk => hk.1.1.1.2)⟩, ⟨by (with_reducible repeat (first | apply Kd.R_alloc | apply Kd.R_drewN | apply Kd.R_drew)); exact Kd.R_mono HO253.out (fun _ hk => hk.1.1.1.2)⟩, ⟨by repeat (first | (with_reducible first | exact HB.out | apply bAl | apply pbD | apply bD1) | exact HB.out)⟩⟩
              ·
               replace c34 := Bool.eq_false_iff.mpr c34
               subst c34
               have H1 : (w8_RulesNothing.j2 k2 a0 a2 t244 t245 t246 t249 t250 t255 true) = some r := by rw [if_neg (show ¬ (false = true) by decide)] at H; exact H
               clear H
               have H := H1
               clear H1
               have H' := aK H
               clear H
               obtain ⟨Ao43, co43, eo43⟩ := Kd.R_slice HO248.out
               subst eo43
               go_wp2_with (first | (go_at_call 19; (with_reducible refine (r8_Unlined.calls _ _ t244 t259 _ ?side1 ?side2 A31.out).mono ?_); (case side1 => repeat (first | exact (Kd.R_reads' HO248.out).2.2 | (with_reducible refine Kd.C_alloc ?_ _) | (with_reducible refine Kd.C_drewN ?_ _) | (with_reducible refine Kd.C_drew ?_))); (case side2 => exact (Kd.R_reads' HO248.out).2.1); rintro e w44 ⟨v260, rfl, ho0, hb⟩; have n0_ := aK (Kd.R_elder' (by (with_reducible repeat (first | apply Kd.R_alloc | apply Kd.R_drewN | apply Kd.R_drew)); exact HO248.out) (Kd.R_base ho0) hb); have n1_ := aK (Kd.R_elder' (by (with_reducible repeat (first | apply Kd.R_alloc | apply Kd.R_drewN | apply Kd.R_drew)); exact HO253.out) (Kd.R_base ho0) hb); have n2_ := aK (Kd.R_elder' (by (with_reducible repeat (first | apply Kd.R_alloc | apply Kd.R_drewN | apply Kd.R_drew)); exact HO258.out) (Kd.R_base ho0) hb); have n3_ := aK (Kd.R_lower (Kd.R_new' (Kd.R_new' (Kd.R_new' ho0 (Kd.R_lt (by (with_reducible repeat (first | apply Kd.R_alloc | apply Kd.R_drewN | apply Kd.R_drew)); exact HO248.out))) (Kd.R_lt (by (with_reducible repeat (first | apply Kd.R_alloc | apply Kd.R_drewN | apply Kd.R_drew)); exact HO253.out))) (Kd.R_lt (by (with_reducible repeat (first | apply Kd.R_alloc | apply Kd.R_drewN | apply Kd.R_drew)); exact HO258.out))) (bSz (by repeat (first | (with_reducible first | exact HB.out | apply bAl | apply pbD | apply bD1) | exact HB.out)))); have n4_ := aK (bSp (by repeat (first | (with_reducible first | exact HB.out | apply bAl | apply pbD | apply bD1) | exact HB.out)) hb); clear HO248; clear HO253; clear HO258; clear HB; have HO248 := n0_; have HO253 := n1_; have HO258 := n2_; have HO261 := n3_; have HB := n4_; clear n0_ n1_ n2_ n3_ n4_; (try clear hb); (try clear hb2); (try clear hk); (try clear hi); (try clear ho0); obtain ⟨Ao45, co45, eo45⟩ := Kd.R_slice HO253.out; subst eo45) | (go_at_call 19; (with_reducible refine (r8_Unlined.calls _ _ t249 t262 _ ?side1 ?side2 A32.out).mono ?_); (case side1 => repeat (first | exact (Kd.R_reads' HO253.out).2.2 | (with_reducible refine Kd.C_alloc ?_ _) | (with_reducible refine Kd.C_drewN ?_ _) | (with_reducible refine Kd.C_drew ?_))); (case side2 => exact (Kd.R_reads' HO253.out).2.1); rintro e w46 ⟨v263, rfl, ho0, hb⟩; have n0_ := aK (Kd.R_elder' (by (with_reducible repeat (first | apply Kd.R_alloc | apply Kd.R_drewN | apply Kd.R_drew)); exact HO248.out) (Kd.R_base ho0) hb); have n1_ := aK (Kd.R_elder' (by (with_reducible repeat (first | apply Kd.R_alloc | apply Kd.R_drewN | apply Kd.R_drew)); exact HO253.out) (Kd.R_base ho0) hb); have n2_ := aK (Kd.R_elder' (by (with_reducible repeat (first | apply Kd.R_alloc | apply Kd.R_drewN | apply Kd.R_drew)); exact HO258.out) (Kd.R_base ho0) hb); have n3_ := aK (Kd.R_elder' (by (with_reducible repeat (first | apply Kd.R_alloc | apply Kd.R_drewN | apply Kd.R_drew)); exact HO261.out) (Kd.R_base ho0) hb); have n4_ := aK (Kd.R_lower (Kd.R_new' (Kd.R_new' (Kd.R_new' (Kd.R_new' ho0 (Kd.R_lt (by (with_reducible repeat (first | apply Kd.R_alloc | apply Kd.R_drewN | apply Kd.R_drew)); exact HO248.out))) (Kd.R_lt (by (with_reducible repeat (first | apply Kd.R_alloc | apply Kd.R_drewN | apply Kd.R_drew)); exact HO253.out))) (Kd.R_lt (by (with_reducible repeat (first | apply Kd.R_alloc | apply Kd.R_drewN | apply Kd.R_drew)); exact HO258.out))) (Kd.R_lt (by (with_reducible repeat (first | apply Kd.R_alloc | apply Kd.R_drewN | apply Kd.R_drew)); exact HO261.out))) (bSz (by repeat (first | (with_reducible first | exact HB.out | apply bAl | apply pbD | apply bD1) | exact HB.out)))); have n5_ := aK (bSp (by repeat (first | (with_reducible first | exact HB.out | apply bAl | apply pbD | apply bD1) | exact HB.out)) hb); clear HO248; clear HO253; clear HO258; clear HO261; clear HB; have HO248 := n0_; have HO253 := n1_; have HO258 := n2_; have HO261 := n3_; have HO264 := n4_; have HB := n5_; clear n0_ n1_ n2_ n3_ n4_ n5_; (try clear hb); (try clear hb2); (try clear hk); (try clear hi); (try clear ho0); obtain ⟨Ao47, co47, eo47⟩ := Kd.R_slice HO261.out; subst eo47; obtain ⟨Ao48, co48, eo48⟩ := Kd.R_slice HO264.out; subst eo48) | (go_at_call 16; (with_reducible refine (r8_Same.calls k2 _ _ t259 _ _ t262 false _ ?side1 ?side2 ?side3 ?side4 A33.out).mono ?_); (case side1 => repeat (first | exact (Kd.R_reads' HO261.out).2.2 | (with_reducible refine Kd.C_alloc ?_ _) | (with_reducible refine Kd.C_drewN ?_ _) | (with_reducible refine Kd.C_drew ?_))); (case side2 => exact (Kd.R_reads' HO261.out).2.1); (case side3 => repeat (first | exact (Kd.R_reads' HO264.out).2.2 | (with_reducible refine Kd.C_alloc ?_ _) | (with_reducible refine Kd.C_drewN ?_ _) | (with_reducible refine Kd.C_drew ?_))); (case side4 => exact (Kd.R_reads' HO264.out).2.1); rintro e w' ⟨rfl, ⟨nd, rfl⟩⟩; (try first | exact ⟨rfl, _, World.drewN_drewN _ _ _⟩ | exact ⟨rfl, _, Eq.trans (World.drewN_drewN _ _ _) (congrArg (World.drewN _) (Nat.add_assoc _ _ _))⟩)))
               repeat (go_quiet (first | (go_at_call 19; (with_reducible refine (r8_Unlined.calls _ _ t244 t259 _ ?side1 ?side2 A31.out).mono ?_); (case side1 => repeat (first | exact (Kd.R_reads' HO248.out).2.2 | (with_reducible refine Kd.C_alloc ?_ _) | (with_reducible refine Kd.C_drewN ?_ _) | (with_reducible refine Kd.C_drew ?_))); (case side2 => exact (Kd.R_reads' HO248.out).2.1); rintro e w44 ⟨v260, rfl, ho0, hb⟩; have n0_ := aK (Kd.R_elder' (by (with_reducible repeat (first | apply Kd.R_alloc | apply Kd.R_drewN | apply Kd.R_drew)); exact HO248.out) (Kd.R_base ho0) hb); have n1_ := aK (Kd.R_elder' (by (with_reducible repeat (first | apply Kd.R_alloc | apply Kd.R_drewN | apply Kd.R_drew)); exact HO253.out) (Kd.R_base ho0) hb); have n2_ := aK (Kd.R_elder' (by (with_reducible repeat (first | apply Kd.R_alloc | apply Kd.R_drewN | apply Kd.R_drew)); exact HO258.out) (Kd.R_base ho0) hb); have n3_ := aK (Kd.R_lower (Kd.R_new' (Kd.R_new' (Kd.R_new' ho0 (Kd.R_lt (by (with_reducible repeat (first | apply Kd.R_alloc | apply Kd.R_drewN | apply Kd.R_drew)); exact HO248.out))) (Kd.R_lt (by (with_reducible repeat (first | apply Kd.R_alloc | apply Kd.R_drewN | apply Kd.R_drew)); exact HO253.out))) (Kd.R_lt (by (with_reducible repeat (first | apply Kd.R_alloc | apply Kd.R_drewN | apply Kd.R_drew)); exact HO258.out))) (bSz (by repeat (first | (with_reducible first | exact HB.out | apply bAl | apply pbD | apply bD1) | exact HB.out)))); have n4_ := aK (bSp (by repeat (first | (with_reducible first | exact HB.out | apply bAl | apply pbD | apply bD1) | exact HB.out)) hb); clear HO248; clear HO253; clear HO258; clear HB; have HO248 := n0_; have HO253 := n1_; have HO258 := n2_; have HO261 := n3_; have HB := n4_; clear n0_ n1_ n2_ n3_ n4_; (try clear hb); (try clear hb2); (try clear hk); (try clear hi); (try clear ho0); obtain ⟨Ao45, co45, eo45⟩ := Kd.R_slice HO253.out; subst eo45) | (go_at_call 19; (with_reducible refine (r8_Unlined.calls _ _ t249 t262 _ ?side1 ?side2 A32.out).mono ?_); (case side1 => repeat (first | exact (Kd.R_reads' HO253.out).2.2 | (with_reducible refine Kd.C_alloc ?_ _) | (with_reducible refine Kd.C_drewN ?_ _) | (with_reducible refine Kd.C_drew ?_))); (case side2 => exact (Kd.R_reads' HO253.out).2.1); rintro e w46 ⟨v263, rfl, ho0, hb⟩; have n0_ := aK (Kd.R_elder' (by (with_reducible repeat (first | apply Kd.R_alloc | apply Kd.R_drewN | apply Kd.R_drew)); exact HO248.out) (Kd.R_base ho0) hb); have n1_ := aK (Kd.R_elder' (by (with_reducible repeat (first | apply Kd.R_alloc | apply Kd.R_drewN | apply Kd.R_drew)); exact HO253.out) (Kd.R_base ho0) hb); have n2_ := aK (Kd.R_elder' (by (with_reducible repeat (first | apply Kd.R_alloc | apply Kd.R_drewN | apply Kd.R_drew)); exact HO258.out) (Kd.R_base ho0) hb); have n3_ := aK (Kd.R_elder' (by (with_reducible repeat (first | apply Kd.R_alloc | apply Kd.R_drewN | apply Kd.R_drew)); exact HO261.out) (Kd.R_base ho0) hb); have n4_ := aK (Kd.R_lower (Kd.R_new' (Kd.R_new' (Kd.R_new' (Kd.R_new' ho0 (Kd.R_lt (by (with_reducible repeat (first | apply Kd.R_alloc | apply Kd.R_drewN | apply Kd.R_drew)); exact HO248.out))) (Kd.R_lt (by (with_reducible repeat (first | apply Kd.R_alloc | apply Kd.R_drewN | apply Kd.R_drew)); exact HO253.out))) (Kd.R_lt (by (with_reducible repeat (first | apply Kd.R_alloc | apply Kd.R_drewN | apply Kd.R_drew)); exact HO258.out))) (Kd.R_lt (by (with_reducible repeat (first | apply Kd.R_alloc | apply Kd.R_drewN | apply Kd.R_drew)); exact HO261.out))) (bSz (by repeat (first | (with_reducible first | exact HB.out | apply bAl | apply pbD | apply bD1) | exact HB.out)))); have n5_ := aK (bSp (by repeat (first | (with_reducible first | exact HB.out | apply bAl | apply pbD | apply bD1) | exact HB.out)) hb); clear HO248; clear HO253; clear HO258; clear HO261; clear HB; have HO248 := n0_; have HO253 := n1_; have HO258 := n2_; have HO261 := n3_; have HO264 := n4_; have HB := n5_; clear n0_ n1_ n2_ n3_ n4_ n5_; (try clear hb); (try clear hb2); (try clear hk); (try clear hi); (try clear ho0); obtain ⟨Ao47, co47, eo47⟩ := Kd.R_slice HO261.out; subst eo47; obtain ⟨Ao48, co48, eo48⟩ := Kd.R_slice HO264.out; subst eo48) | (go_at_call 16; (with_reducible refine (r8_Same.calls k2 _ _ t259 _ _ t262 false _ ?side1 ?side2 ?side3 ?side4 A33.out).mono ?_); (case side1 => repeat (first | exact (Kd.R_reads' HO261.out).2.2 | (with_reducible refine Kd.C_alloc ?_ _) | (with_reducible refine Kd.C_drewN ?_ _) | (with_reducible refine Kd.C_drew ?_))); (case side2 => exact (Kd.R_reads' HO261.out).2.1); (case side3 => repeat (first | exact (Kd.R_reads' HO264.out).2.2 | (with_reducible refine Kd.C_alloc ?_ _) | (with_reducible refine Kd.C_drewN ?_ _) | (with_reducible refine Kd.C_drew ?_))); (case side4 => exact (Kd.R_reads' HO264.out).2.1); rintro e w' ⟨rfl, ⟨nd, rfl⟩⟩; (try first | exact ⟨rfl, _, World.drewN_drewN _ _ _⟩ | exact ⟨rfl, _, Eq.trans (World.drewN_drewN _ _ _) (congrArg (World.drewN _) (Nat.add_assoc _ _ _))⟩))); try go_wp2_with (first | (go_at_call 19; (with_reducible refine (r8_Unlined.calls _ _ t244 t259 _ ?side1 ?side2 A31.out).mono ?_); (case side1 => repeat (first | exact (Kd.R_reads' HO248.out).2.2 | (with_reducible refine Kd.C_alloc ?_ _) | (with_reducible refine Kd.C_drewN ?_ _) | (with_reducible refine Kd.C_drew ?_))); (case side2 => exact (Kd.R_reads' HO248.out).2.1); rintro e w44 ⟨v260, rfl, ho0, hb⟩; have n0_ := aK (Kd.R_elder' (by (with_reducible repeat (first | apply Kd.R_alloc | apply Kd.R_drewN | apply Kd.R_drew)); exact HO248.out) (Kd.R_base ho0) hb); have n1_ := aK (Kd.R_elder' (by (with_reducible repeat (first | apply Kd.R_alloc | apply Kd.R_drewN | apply Kd.R_drew)); exact HO253.out) (Kd.R_base ho0) hb); have n2_ := aK (Kd.R_elder' (by (with_reducible repeat (first | apply Kd.R_alloc | apply Kd.R_drewN | apply Kd.R_drew)); exact HO258.out) (Kd.R_base ho0) hb); have n3_ := aK (Kd.R_lower (Kd.R_new' (Kd.R_new' (Kd.R_new' ho0 (Kd.R_lt (by (with_reducible repeat (first | apply Kd.R_alloc | apply Kd.R_drewN | apply Kd.R_drew)); exact HO248.out))) (Kd.R_lt (by (with_reducible repeat (first | apply Kd.R_alloc | apply Kd.R_drewN | apply Kd.R_drew)); exact HO253.out))) (Kd.R_lt (by (with_reducible repeat (first | apply Kd.R_alloc | apply Kd.R_drewN | apply Kd.R_drew)); exact HO258.out))) (bSz (by repeat (first | (with_reducible first | exact HB.out | apply bAl | apply pbD | apply bD1) | exact HB.out)))); have n4_ := aK (bSp (by repeat (first | (with_reducible first | exact HB.out | apply bAl | apply pbD | apply bD1) | exact HB.out)) hb); clear HO248; clear HO253; clear HO258; clear HB; have HO248 := n0_; have HO253 := n1_; have HO258 := n2_; have HO261 := n3_; have HB := n4_; clear n0_ n1_ n2_ n3_ n4_; (try clear hb); (try clear hb2); (try clear hk); (try clear hi); (try clear ho0); obtain ⟨Ao45, co45, eo45⟩ := Kd.R_slice HO253.out; subst eo45) | (go_at_call 19; (with_reducible refine (r8_Unlined.calls _ _ t249 t262 _ ?side1 ?side2 A32.out).mono ?_); (case side1 => repeat (first | exact (Kd.R_reads' HO253.out).2.2 | (with_reducible refine Kd.C_alloc ?_ _) | (with_reducible refine Kd.C_drewN ?_ _) | (with_reducible refine Kd.C_drew ?_))); (case side2 => exact (Kd.R_reads' HO253.out).2.1); rintro e w46 ⟨v263, rfl, ho0, hb⟩; have n0_ := aK (Kd.R_elder' (by (with_reducible repeat (first | apply Kd.R_alloc | apply Kd.R_drewN | apply Kd.R_drew)); exact HO248.out) (Kd.R_base ho0) hb); have n1_ := aK (Kd.R_elder' (by (with_reducible repeat (first | apply Kd.R_alloc | apply Kd.R_drewN | apply Kd.R_drew)); exact HO253.out) (Kd.R_base ho0) hb); have n2_ := aK (Kd.R_elder' (by (with_reducible repeat (first | apply Kd.R_alloc | apply Kd.R_drewN | apply Kd.R_drew)); exact HO258.out) (Kd.R_base ho0) hb); have n3_ := aK (Kd.R_elder' (by (with_reducible repeat (first | apply Kd.R_alloc | apply Kd.R_drewN | apply Kd.R_drew)); exact HO261.out) (Kd.R_base ho0) hb); have n4_ := aK (Kd.R_lower (Kd.R_new' (Kd.R_new' (Kd.R_new' (Kd.R_new' ho0 (Kd.R_lt (by (with_reducible repeat (first | apply Kd.R_alloc | apply Kd.R_drewN | apply Kd.R_drew)); exact HO248.out))) (Kd.R_lt (by (with_reducible repeat (first | apply Kd.R_alloc | apply Kd.R_drewN | apply Kd.R_drew)); exact HO253.out))) (Kd.R_lt (by (with_reducible repeat (first | apply Kd.R_alloc | apply Kd.R_drewN | apply Kd.R_drew)); exact HO258.out))) (Kd.R_lt (by (with_reducible repeat (first | apply Kd.R_alloc | apply Kd.R_drewN | apply Kd.R_drew)); exact HO261.out))) (bSz (by repeat (first | (with_reducible first | exact HB.out | apply bAl | apply pbD | apply bD1) | exact HB.out)))); have n5_ := aK (bSp (by repeat (first | (with_reducible first | exact HB.out | apply bAl | apply pbD | apply bD1) | exact HB.out)) hb); clear HO248; clear HO253; clear HO258; clear HO261; clear HB; have HO248 := n0_; have HO253 := n1_; have HO258 := n2_; have HO261 := n3_; have HO264 := n4_; have HB := n5_; clear n0_ n1_ n2_ n3_ n4_ n5_; (try clear hb); (try clear hb2); (try clear hk); (try clear hi); (try clear ho0); obtain ⟨Ao47, co47, eo47⟩ := Kd.R_slice HO261.out; subst eo47; obtain ⟨Ao48, co48, eo48⟩ := Kd.R_slice HO264.out; subst eo48) | (go_at_call 16; (with_reducible refine (r8_Same.calls k2 _ _ t259 _ _ t262 false _ ?side1 ?side2 ?side3 ?side4 A33.out).mono ?_); (case side1 => repeat (first | exact (Kd.R_reads' HO261.out).2.2 | (with_reducible refine Kd.C_alloc ?_ _) | (with_reducible refine Kd.C_drewN ?_ _) | (with_reducible refine Kd.C_drew ?_))); (case side2 => exact (Kd.R_reads' HO261.out).2.1); (case side3 => repeat (first | exact (Kd.R_reads' HO264.out).2.2 | (with_reducible refine Kd.C_alloc ?_ _) | (with_reducible refine Kd.C_drewN ?_ _) | (with_reducible refine Kd.C_drew ?_))); (case side4 => exact (Kd.R_reads' HO264.out).2.1); rintro e w' ⟨rfl, ⟨nd, rfl⟩⟩; (try first | exact ⟨rfl, _, World.drewN_drewN _ _ _⟩ | exact ⟨rfl, _, Eq.trans (World.drewN_drewN _ _ _) (congrArg (World.drewN _) (Nat.add_assoc _ _ _))⟩))))
               go_meet
               case rel => exact ⟨_, (true), (by first | rfl | (simp; done) | (simp [*]; done)), H', ⟨by have := HJ3.out; have := HK2.out; first | omega | exact Nat.le_refl _⟩, ⟨by (with_reducible repeat (first | apply Kd.R_alloc | apply Kd.R_drewN | apply Kd.R_drew)); exact Kd.R_mono HO248.out (fun _ hk => hk.1.1.1.2)⟩, ⟨by (with_reducible repeat (first | apply Kd.R_alloc | apply Kd.R_drewN | apply Kd.R_drew)); exact Kd.R_mono HO253.out (fun _ hk => hk.1.1.1.2)⟩, ⟨by repeat (first | (with_reducible first | exact HB.out | apply bAl | apply pbD | apply bD1) | exact HB.out)⟩⟩
             ·
              rw [if_neg c30] at H
              have c30b0 : (t246 == t256) = false := beq_eq_false_iff_ne.mpr c30
              have c30b1 : (t246 != t256) = true := bne_iff_ne.mpr c30
              have H' := aK H
              clear H
              go_wp2
              repeat (go_quiet (fail); try go_wp2)
              go_meet
              case rel => exact ⟨_, (true), (by first | rfl | (simp; done) | (simp [*]; done)), H', ⟨by have := HJ3.out; have := HK2.out; first | omega | exact Nat.le_refl _⟩, ⟨by (with_reducible repeat (first | apply Kd.R_alloc | apply Kd.R_drewN | apply Kd.R_drew)); exact Kd.R_mono HO248.out (fun _ hk => hk.1.2)⟩, ⟨by (with_reducible repeat (first | apply Kd.R_alloc | apply Kd.R_drewN | apply Kd.R_drew)); exact Kd.R_mono HO253.out (fun _ hk => hk.1.2)⟩, ⟨by repeat (first | (with_reducible first | exact HB.out | apply bAl | apply pbD | apply bD1) | exact HB.out)⟩⟩
            ·
             rw [if_neg c29] at H
             have c29b0 : (t246 == t251) = false := beq_eq_false_iff_ne.mpr c29
             have c29b1 : (t246 != t251) = true := bne_iff_ne.mpr c29
             (first | rw [c29b0] | (simp only [i64_w, i32_w]; rw [c29b0]) | skip)
             have H' := aK H
             clear H
             go_wp2
             repeat (go_quiet (fail); try go_wp2)
             go_meet
             case rel => exact ⟨_, (true), (by first | rfl | (simp; done) | (simp [*]; done)), H', ⟨by have := HJ3.out; have := HK2.out; first | omega | exact Nat.le_refl _⟩, ⟨by (with_reducible repeat (first | apply Kd.R_alloc | apply Kd.R_drewN | apply Kd.R_drew)); exact Kd.R_mono HO248.out (fun _ hk => hk.1.2)⟩, ⟨by (with_reducible repeat (first | apply Kd.R_alloc | apply Kd.R_drewN | apply Kd.R_drew)); exact Kd.R_mono HO253.out (fun _ hk => hk.1.2)⟩, ⟨by repeat (first | (with_reducible first | exact HB.out | apply bAl | apply pbD | apply bD1) | exact HB.out)⟩⟩
           case rest =>
            clear HC25
            try clear c1
            try clear p1
            try clear q1
            try clear hx1
            try clear c2
            try clear p2
            try clear c3
            try clear c5
            try clear c5b0
            try clear c5b1
            try clear c6
            try clear c6b0
            try clear c6b1
            try clear p6
            try clear c7
            try clear c10
            try clear c10b0
            try clear c11
            try clear c11b0
            try clear p12
            try clear q12
            try clear hx12
            try clear c13
            try clear c13b0
            try clear c13b1
            try clear c14
            try clear c14b0
            try clear c15
            try clear c15b0
            try clear c15b1
            try clear c16
            try clear c16b0
            try clear c16b1
            try clear c17
            try clear c17b0
            try clear c17b1
            try clear c17b2
            try clear c19
            try clear c19b0
            try clear c19b1
            try clear c19b2
            try clear c20
            try clear c20b0
            try clear c20b1
            try clear c20b2
            try clear c21
            try clear c21b0
            try clear c21b1
            try clear c21b2
            try clear c23
            try clear c23b0
            try clear c23b1
            try clear c23b2
            try clear c29
            try clear c29b0
            try clear c29b1
            try clear c30
            try clear c30b0
            try clear c30b1
            try clear c34
            try clear p12
            try clear p2
            try clear q12
            obtain ⟨kq, x97_24, rfl, HA, HJ24, HO_9, HO_12, HB⟩ := hcut
            cases kq with
            | zero => exact absurd HA.out (by simp [w8_RulesNothing.j2])
            | succ kj24 =>
             have H := HA.out
             clear HA
             simp only [w8_RulesNothing.j2] at H
             by_cases c49 : x97_24 = true
             ·
              subst c49
              have H1 : (some false) = some r := by rw [if_pos rfl] at H; exact H
              clear H
              have H := H1
              clear H1
              exact absurd ((oI H).trans hT.out) (by decide)
             ·
              replace c49 := Bool.eq_false_iff.mpr c49
              subst c49
              have H1 : (w8_RulesNothing.l1 kj24 a0 a2 t244 t245 t246 t249 t250 t255 0) = some r := by rw [if_neg (show ¬ (false = true) by decide)] at H; exact H
              clear H
              have H := H1
              clear H1
              have H' := aK H
              clear H
              go_wp2
              repeat (go_quiet (fail); try go_wp2)
              go_loopg [18] kj24 (fun kq v18 w' => ∃ (x18_4 : Int), v18 = .int .i64 x18_4 ∧ Aside0 (w8_RulesNothing.l1 kq a0 a2 t244 t245 t246 t249 t250 t255 x18_4 = some r) ∧ Aside0 (kq ≤ kj24) ∧ Aside0 (Kd.R k47 47 w' w.heap.size (fun k_ => some k_ ≠ (v252 : Value).ownBlock) v247 t244) ∧ Aside0 (Kd.R k47 47 w' w.heap.size (fun k_ => some k_ ≠ (v247 : Value).ownBlock) v252 t249) ∧ Aside0 (Below w.heap.size w w'))
              case atStart => exact ⟨(0), (by first | rfl | (simp; done) | (simp [*]; done)), H', ⟨Nat.le_refl _⟩, ⟨by (with_reducible repeat (first | apply Kd.R_alloc | apply Kd.R_drewN | apply Kd.R_drew)); exact HO_9.out⟩, ⟨by (with_reducible repeat (first | apply Kd.R_alloc | apply Kd.R_drewN | apply Kd.R_drew)); exact HO_12.out⟩, ⟨by repeat (first | (with_reducible first | exact HB.out | apply bAl | apply pbD | apply bD1) | exact HB.out)⟩⟩
              case round =>
               clear H'
               try clear c1
               try clear p1
               try clear q1
               try clear hx1
               try clear c2
               try clear p2
               try clear c3
               try clear c4
               try clear c5
               try clear c5b0
               try clear c5b1
               try clear c6
               try clear c6b0
               try clear c6b1
               try clear p6
               try clear c7
               try clear c10
               try clear c10b0
               try clear c11
               try clear c11b0
               try clear p12
               try clear q12
               try clear hx12
               try clear c13
               try clear c13b0
               try clear c13b1
               try clear c14
               try clear c14b0
               try clear c15
               try clear c15b0
               try clear c15b1
               try clear c16
               try clear c16b0
               try clear c16b1
               try clear c17
               try clear c17b0
               try clear c17b1
               try clear c17b2
               try clear c19
               try clear c19b0
               try clear c19b1
               try clear c19b2
               try clear c20
               try clear c20b0
               try clear c20b1
               try clear c20b2
               try clear c21
               try clear c21b0
               try clear c21b1
               try clear c21b2
               try clear c23
               try clear c23b0
               try clear c23b1
               try clear c23b2
               try clear c29
               try clear c29b0
               try clear c29b1
               try clear c30
               try clear c30b0
               try clear c30b1
               try clear c34
               try clear c49
               try clear p1
               try clear p12
               try clear p2
               try clear p6
               try clear q1
               try clear q12
               obtain ⟨x18_4, rfl, HA, HK4, HO_9, HO_12, HB⟩ := hrel
               cases gk with
               | zero => exact absurd HA.out (by simp [w8_RulesNothing.l1])
               | succ k4 =>
                have H := HA.out
                clear HA
                simp only [w8_RulesNothing.l1] at H
                by_cases c50 : x18_4 < (t244.length : Int)
                ·
                 rw [if_pos c50] at H
                 have c50b0 : decide (x18_4 < (t244.length : Int)) = true := decide_eq_true c50
                 clear c50
                 by_cases c51 : 0 ≤ x18_4
                 ·
                  rw [if_pos c51] at H
                  have c51b0 : decide (0 ≤ x18_4) = true := decide_eq_true c51
                  clear c51
                  by_cases c52 : x18_4 < (t249.length : Int)
                  ·
                   rw [if_pos c52] at H
                   have c52b0 : decide (x18_4 < (t249.length : Int)) = true := decide_eq_true c52
                   clear c52
                   by_cases c53 : ((rd_T47 t249 x18_4).f4) = (wrap64 (((rd_T47 t244 x18_4).f4) + 1))
                   ·
                    rw [if_pos c53] at H
                    have c53b0 : (((rd_T47 t249 x18_4).f4) == (wrap64 (((rd_T47 t244 x18_4).f4) + 1))) = true := beq_iff_eq.mpr c53
                    have c53b1 : (((rd_T47 t249 x18_4).f4) != (wrap64 (((rd_T47 t244 x18_4).f4) + 1))) = false := bne_eq_false_iff_eq.mpr c53
                    clear c53
                    have H' := aK H
                    clear H
                    obtain ⟨Ao54, co54, eo54⟩ := Kd.R_slice HO_9.out
                    subst eo54
                    obtain ⟨Ao55, co55, eo55⟩ := Kd.R_slice HO_12.out
                    subst eo55
                    have p267 : 0 ≤ (x18_4 : Int) := odT (by first | (with_reducible assumption) | assumption)
                    have q267 : x18_4 < (t249.length : Int) := odT (by first | (with_reducible assumption) | assumption)
                    obtain ⟨ad267, e267, hx267_0, hx267_1, hx267_2, hx267_3, hx267_4⟩ := at_T47 (Kd.R_reads' HO_12.out).2.2 x18_4 p267 q267
                    cases e267
                    replace p267 := eq_true p267
                    replace q267 := eq_true q267
                    have p268 : 0 ≤ (x18_4 : Int) := odT (by first | (with_reducible assumption) | assumption)
                    have q268 : x18_4 < (t244.length : Int) := odT (by first | (with_reducible assumption) | assumption)
                    obtain ⟨ad268, e268, hx268_0, hx268_1, hx268_2, hx268_3, hx268_4⟩ := at_T47 (Kd.R_reads' HO_9.out).2.2 x18_4 p268 q268
                    cases e268
                    replace p268 := eq_true p268
                    replace q268 := eq_true q268
                    go_wp2
                    repeat (go_quiet (fail); try go_wp2)
                    go_roundg k4
                    case measure => have := HJ3.out; have := HK2.out; have := HJ24.out; have := HK4.out; omega
                    case rel => exact ⟨(wrap64 (x18_4 + 1)), (by first | rfl | (simp; done) | (simp [*]; done)), H', ⟨by have := HJ3.out; have := HK2.out; have := HJ24.out; have := HK4.out; omega⟩, ⟨by (with_reducible repeat (first | apply Kd.R_alloc | apply Kd.R_drewN | apply Kd.R_drew)); exact HO_9.out⟩, ⟨by (with_reducible repeat (first | apply Kd.R_alloc | apply Kd.R_drewN | apply Kd.R_drew)); exact HO_12.out⟩, ⟨by repeat (first | (with_reducible first | exact HB.out | apply bAl | apply pbD | apply bD1) | exact HB.out)⟩⟩
                   ·
                    rw [if_neg c53] at H
                    have c53b0 : (((rd_T47 t249 x18_4).f4) == (wrap64 (((rd_T47 t244 x18_4).f4) + 1))) = false := beq_eq_false_iff_ne.mpr c53
                    have c53b1 : (((rd_T47 t249 x18_4).f4) != (wrap64 (((rd_T47 t244 x18_4).f4) + 1))) = true := bne_iff_ne.mpr c53
                    exact absurd ((oI H).trans hT.out) (by decide)
                  ·
                   rw [if_neg c52] at H
                   exact absurd H (by simp)
                 ·
                  rw [if_neg c51] at H
                  exact absurd H (by simp)
                ·
                 rw [if_neg c50] at H
                 have c50b0 : decide (x18_4 < (t244.length : Int)) = false := decide_eq_false c50
                 clear c50
                 by_cases c56 : t246 = 0
                 ·
                  rw [if_pos c56] at H
                  have c56b0 : (t246 == 0) = true := beq_iff_eq.mpr c56
                  have c56b1 : (t246 != 0) = false := bne_eq_false_iff_eq.mpr c56
                  clear c56
                  by_cases c57 : t245 = 0
                  ·
                   rw [if_pos c57] at H
                   have c57b0 : (t245 == 0) = true := beq_iff_eq.mpr c57
                   have c57b1 : (t245 != 0) = false := bne_eq_false_iff_eq.mpr c57
                   clear c57
                   by_cases c58 : t250 = 0
                   ·
                    rw [if_pos c58] at H
                    have c58b0 : (t250 == 0) = true := beq_iff_eq.mpr c58
                    have c58b1 : (t250 != 0) = false := bne_eq_false_iff_eq.mpr c58
                    clear c58
                    by_cases c59 : t255 = 0
                    ·
                     rw [if_pos c59] at H
                     have c59b0 : (t255 == 0) = true := beq_iff_eq.mpr c59
                     have c59b1 : (t255 != 0) = false := bne_eq_false_iff_eq.mpr c59
                     clear c59
                     replace H := oB H
                     obtain ⟨t269, A600, H⟩ := H
                     replace H : (some t269) = some r := H
                     have A60 := aK A600
                     clear A600
                     obtain rfl := oI H
                     obtain ⟨Ao61, co61, eo61⟩ := Kd.R_slice HO_9.out
                     subst eo61
                     go_wp2_with (first | (go_at_call 13; (with_reducible refine (w8_awake.calls k4  t269 _ A60.out).mono ?_); rintro e w62 ⟨rfl, hb⟩; have n0_ := aK (Kd.R_below (by (with_reducible repeat (first | apply Kd.R_alloc | apply Kd.R_drewN | apply Kd.R_drew)); exact HO_9.out) hb); have n1_ := aK (Kd.R_below (by (with_reducible repeat (first | apply Kd.R_alloc | apply Kd.R_drewN | apply Kd.R_drew)); exact HO_12.out) hb); have n2_ := aK (bSp (by repeat (first | (with_reducible first | exact HB.out | apply bAl | apply pbD | apply bD1) | exact HB.out)) hb); clear HO_9; clear HO_12; clear HB; have HO_9 := n0_; have HO_12 := n1_; have HB := n2_; clear n0_ n1_ n2_; (try clear hb); (try clear hb2); (try clear hk); (try clear hi)))
                     repeat (go_quiet (first | (go_at_call 13; (with_reducible refine (w8_awake.calls k4  t269 _ A60.out).mono ?_); rintro e w62 ⟨rfl, hb⟩; have n0_ := aK (Kd.R_below (by (with_reducible repeat (first | apply Kd.R_alloc | apply Kd.R_drewN | apply Kd.R_drew)); exact HO_9.out) hb); have n1_ := aK (Kd.R_below (by (with_reducible repeat (first | apply Kd.R_alloc | apply Kd.R_drewN | apply Kd.R_drew)); exact HO_12.out) hb); have n2_ := aK (bSp (by repeat (first | (with_reducible first | exact HB.out | apply bAl | apply pbD | apply bD1) | exact HB.out)) hb); clear HO_9; clear HO_12; clear HB; have HO_9 := n0_; have HO_12 := n1_; have HB := n2_; clear n0_ n1_ n2_; (try clear hb); (try clear hb2); (try clear hk); (try clear hi))); try go_wp2_with (first | (go_at_call 13; (with_reducible refine (w8_awake.calls k4  t269 _ A60.out).mono ?_); rintro e w62 ⟨rfl, hb⟩; have n0_ := aK (Kd.R_below (by (with_reducible repeat (first | apply Kd.R_alloc | apply Kd.R_drewN | apply Kd.R_drew)); exact HO_9.out) hb); have n1_ := aK (Kd.R_below (by (with_reducible repeat (first | apply Kd.R_alloc | apply Kd.R_drewN | apply Kd.R_drew)); exact HO_12.out) hb); have n2_ := aK (bSp (by repeat (first | (with_reducible first | exact HB.out | apply bAl | apply pbD | apply bD1) | exact HB.out)) hb); clear HO_9; clear HO_12; clear HB; have HO_9 := n0_; have HO_12 := n1_; have HB := n2_; clear n0_ n1_ n2_; (try clear hb); (try clear hb2); (try clear hk); (try clear hi))))
                     go_ret
                     exact ⟨by first | rfl | (simp [eWn, eWs] <;> rfl) | (simp [*, eWn, eWs] <;> rfl), by repeat (first | (with_reducible first | exact HB.out | apply bAl | apply pbD | apply bD1) | exact HB.out)⟩
                    ·
                     rw [if_neg c59] at H
                     have c59b0 : (t255 == 0) = false := beq_eq_false_iff_ne.mpr c59
                     have c59b1 : (t255 != 0) = true := bne_iff_ne.mpr c59
                     exact absurd ((oI H).trans hT.out) (by decide)
                   ·
                    rw [if_neg c58] at H
                    have c58b0 : (t250 == 0) = false := beq_eq_false_iff_ne.mpr c58
                    have c58b1 : (t250 != 0) = true := bne_iff_ne.mpr c58
                    exact absurd ((oI H).trans hT.out) (by decide)
                  ·
                   rw [if_neg c57] at H
                   have c57b0 : (t245 == 0) = false := beq_eq_false_iff_ne.mpr c57
                   have c57b1 : (t245 != 0) = true := bne_iff_ne.mpr c57
                   exact absurd ((oI H).trans hT.out) (by decide)
                 ·
                  rw [if_neg c56] at H
                  have c56b0 : (t246 == 0) = false := beq_eq_false_iff_ne.mpr c56
                  have c56b1 : (t246 != 0) = true := bne_iff_ne.mpr c56
                  by_cases c63 : a0.size + 1 ≤ 9223372036854775807
                  ·
                   rw [if_pos c63] at H
                   have c63b0 := eq_true c63
                   have c63b1 : decide (a0.size + 1 ≤ 9223372036854775807) = true := decide_eq_true c63
                   try have c63b2 : (9223372036854775807 < a0.size + 1) = False := eq_false (Nat.not_lt.2 c63)
                   by_cases c64 : (a0 ++ (⟨#[10]⟩ : ByteArray)).size + a2.size ≤ 9223372036854775807
                   ·
                    rw [if_pos c64] at H
                    have c64b0 := eq_true c64
                    have c64b1 : decide ((a0 ++ (⟨#[10]⟩ : ByteArray)).size + a2.size ≤ 9223372036854775807) = true := decide_eq_true c64
                    try have c64b2 : (9223372036854775807 < (a0 ++ (⟨#[10]⟩ : ByteArray)).size + a2.size) = False := eq_false (Nat.not_lt.2 c64)
                    try have c64b2r : (9223372036854775807 < a0.size + 1 + a2.size) = False := (by have h_ := c64; simp only [ByteArray.size_append] at h_; exact eq_false (Nat.not_lt.2 h_))
                    replace H := oB H
                    obtain ⟨⟨t270, t271, t272⟩, A650, H⟩ := H
                    try dsimp only at H
                    have A65 := aK A650
                    clear A650
                    by_cases c66 : t250 = (wrap64 (t245 + 1))
                    ·
                     rw [if_pos c66] at H
                     have c66b0 : (t250 == (wrap64 (t245 + 1))) = true := beq_iff_eq.mpr c66
                     have c66b1 : (t250 != (wrap64 (t245 + 1))) = false := bne_eq_false_iff_eq.mpr c66
                     clear c66
                     by_cases c67 : t255 = (wrap64 (t245 + 1))
                     ·
                      rw [if_pos c67] at H
                      have c67b0 : (t255 == (wrap64 (t245 + 1))) = true := beq_iff_eq.mpr c67
                      have c67b1 : (t255 != (wrap64 (t245 + 1))) = false := bne_eq_false_iff_eq.mpr c67
                      clear c67
                      by_cases c68 : t272 = t246
                      ·
                       rw [if_pos c68] at H
                       have c68b0 : (t272 == t246) = true := beq_iff_eq.mpr c68
                       have c68b1 : (t272 != t246) = false := bne_eq_false_iff_eq.mpr c68
                       clear c68
                       by_cases c69 : t271 = t245
                       ·
                        rw [if_pos c69] at H
                        have c69b0 : (t271 == t245) = true := beq_iff_eq.mpr c69
                        have c69b1 : (t271 != t245) = false := bne_eq_false_iff_eq.mpr c69
                        clear c69
                        by_cases c70 : (t270.length : Int) = 0
                        ·
                         rw [if_pos c70] at H
                         have c70b0 : ((t270.length : Int) == 0) = true := beq_iff_eq.mpr c70
                         have c70b1 : ((t270.length : Int) != 0) = false := bne_eq_false_iff_eq.mpr c70
                         clear c70
                         replace H := oB H
                         obtain ⟨t275, A710, H⟩ := H
                         replace H : (some t275) = some r := H
                         have A71 := aK A710
                         clear A710
                         obtain rfl := oI H
                         obtain ⟨Ao72, co72, eo72⟩ := Kd.R_slice HO_9.out
                         subst eo72
                         go_wp2_with (first | (go_at_call 14; (with_reducible refine (rules_Parse.calls ((a0 ++ (⟨#[10]⟩ : ByteArray)) ++ a2) t270 t271 t272 _ A65.out).mono ?_); rintro e w73 ⟨v273, rfl, ho0, hb⟩; have n0_ := aK (Kd.R_elder' (by (with_reducible repeat (first | apply Kd.R_alloc | apply Kd.R_drewN | apply Kd.R_drew)); exact HO_9.out) (Kd.R_base ho0) hb); have n1_ := aK (Kd.R_elder' (by (with_reducible repeat (first | apply Kd.R_alloc | apply Kd.R_drewN | apply Kd.R_drew)); exact HO_12.out) (Kd.R_base ho0) hb); have n2_ := aK (Kd.R_lower (Kd.R_new' (Kd.R_new' ho0 (Kd.R_lt (by (with_reducible repeat (first | apply Kd.R_alloc | apply Kd.R_drewN | apply Kd.R_drew)); exact HO_9.out))) (Kd.R_lt (by (with_reducible repeat (first | apply Kd.R_alloc | apply Kd.R_drewN | apply Kd.R_drew)); exact HO_12.out))) (bSz (by repeat (first | (with_reducible first | exact HB.out | apply bAl | apply pbD | apply bD1) | exact HB.out)))); have n3_ := aK (bSp (by repeat (first | (with_reducible first | exact HB.out | apply bAl | apply pbD | apply bD1) | exact HB.out)) hb); clear HO_9; clear HO_12; clear HB; have HO_9 := n0_; have HO_12 := n1_; have HO274 := n2_; have HB := n3_; clear n0_ n1_ n2_ n3_; (try clear hb); (try clear hb2); (try clear hk); (try clear hi); (try clear ho0); obtain ⟨Ao74, co74, eo74⟩ := Kd.R_slice HO274.out; subst eo74) | (go_at_call 13; (with_reducible refine (w8_awake.calls k4  t275 _ A71.out).mono ?_); rintro e w75 ⟨rfl, hb⟩; have n0_ := aK (Kd.R_below (by (with_reducible repeat (first | apply Kd.R_alloc | apply Kd.R_drewN | apply Kd.R_drew)); exact HO_9.out) hb); have n1_ := aK (Kd.R_below (by (with_reducible repeat (first | apply Kd.R_alloc | apply Kd.R_drewN | apply Kd.R_drew)); exact HO_12.out) hb); have n2_ := aK (Kd.R_below (by (with_reducible repeat (first | apply Kd.R_alloc | apply Kd.R_drewN | apply Kd.R_drew)); exact HO274.out) hb); have n3_ := aK (bSp (by repeat (first | (with_reducible first | exact HB.out | apply bAl | apply pbD | apply bD1) | exact HB.out)) hb); clear HO_9; clear HO_12; clear HO274; clear HB; have HO_9 := n0_; have HO_12 := n1_; have HO274 := n2_; have HB := n3_; clear n0_ n1_ n2_ n3_; (try clear hb); (try clear hb2); (try clear hk); (try clear hi)))
                         repeat (go_quiet (first | (go_at_call 14; (with_reducible refine (rules_Parse.calls ((a0 ++ (⟨#[10]⟩ : ByteArray)) ++ a2) t270 t271 t272 _ A65.out).mono ?_); rintro e w73 ⟨v273, rfl, ho0, hb⟩; have n0_ := aK (Kd.R_elder' (by (with_reducible repeat (first | apply Kd.R_alloc | apply Kd.R_drewN | apply Kd.R_drew)); exact HO_9.out) (Kd.R_base ho0) hb); have n1_ := aK (Kd.R_elder' (by (with_reducible repeat (first | apply Kd.R_alloc | apply Kd.R_drewN | apply Kd.R_drew)); exact HO_12.out) (Kd.R_base ho0) hb); have n2_ := aK (Kd.R_lower (Kd.R_new' (Kd.R_new' ho0 (Kd.R_lt (by (with_reducible repeat (first | apply Kd.R_alloc | apply Kd.R_drewN | apply Kd.R_drew)); exact HO_9.out))) (Kd.R_lt (by (with_reducible repeat (first | apply Kd.R_alloc | apply Kd.R_drewN | apply Kd.R_drew)); exact HO_12.out))) (bSz (by repeat (first | (with_reducible first | exact HB.out | apply bAl | apply pbD | apply bD1) | exact HB.out)))); have n3_ := aK (bSp (by repeat (first | (with_reducible first | exact HB.out | apply bAl | apply pbD | apply bD1) | exact HB.out)) hb); clear HO_9; clear HO_12; clear HB; have HO_9 := n0_; have HO_12 := n1_; have HO274 := n2_; have HB := n3_; clear n0_ n1_ n2_ n3_; (try clear hb); (try clear hb2); (try clear hk); (try clear hi); (try clear ho0); obtain ⟨Ao74, co74, eo74⟩ := Kd.R_slice HO274.out; subst eo74) | (go_at_call 13; (with_reducible refine (w8_awake.calls k4  t275 _ A71.out).mono ?_); rintro e w75 ⟨rfl, hb⟩; have n0_ := aK (Kd.R_below (by (with_reducible repeat (first | apply Kd.R_alloc | apply Kd.R_drewN | apply Kd.R_drew)); exact HO_9.out) hb); have n1_ := aK (Kd.R_below (by (with_reducible repeat (first | apply Kd.R_alloc | apply Kd.R_drewN | apply Kd.R_drew)); exact HO_12.out) hb); have n2_ := aK (Kd.R_below (by (with_reducible repeat (first | apply Kd.R_alloc | apply Kd.R_drewN | apply Kd.R_drew)); exact HO274.out) hb); have n3_ := aK (bSp (by repeat (first | (with_reducible first | exact HB.out | apply bAl | apply pbD | apply bD1) | exact HB.out)) hb); clear HO_9; clear HO_12; clear HO274; clear HB; have HO_9 := n0_; have HO_12 := n1_; have HO274 := n2_; have HB := n3_; clear n0_ n1_ n2_ n3_; (try clear hb); (try clear hb2); (try clear hk); (try clear hi))); try go_wp2_with (first | (go_at_call 14; (with_reducible refine (rules_Parse.calls ((a0 ++ (⟨#[10]⟩ : ByteArray)) ++ a2) t270 t271 t272 _ A65.out).mono ?_); rintro e w73 ⟨v273, rfl, ho0, hb⟩; have n0_ := aK (Kd.R_elder' (by (with_reducible repeat (first | apply Kd.R_alloc | apply Kd.R_drewN | apply Kd.R_drew)); exact HO_9.out) (Kd.R_base ho0) hb); have n1_ := aK (Kd.R_elder' (by (with_reducible repeat (first | apply Kd.R_alloc | apply Kd.R_drewN | apply Kd.R_drew)); exact HO_12.out) (Kd.R_base ho0) hb); have n2_ := aK (Kd.R_lower (Kd.R_new' (Kd.R_new' ho0 (Kd.R_lt (by (with_reducible repeat (first | apply Kd.R_alloc | apply Kd.R_drewN | apply Kd.R_drew)); exact HO_9.out))) (Kd.R_lt (by (with_reducible repeat (first | apply Kd.R_alloc | apply Kd.R_drewN | apply Kd.R_drew)); exact HO_12.out))) (bSz (by repeat (first | (with_reducible first | exact HB.out | apply bAl | apply pbD | apply bD1) | exact HB.out)))); have n3_ := aK (bSp (by repeat (first | (with_reducible first | exact HB.out | apply bAl | apply pbD | apply bD1) | exact HB.out)) hb); clear HO_9; clear HO_12; clear HB; have HO_9 := n0_; have HO_12 := n1_; have HO274 := n2_; have HB := n3_; clear n0_ n1_ n2_ n3_; (try clear hb); (try clear hb2); (try clear hk); (try clear hi); (try clear ho0); obtain ⟨Ao74, co74, eo74⟩ := Kd.R_slice HO274.out; subst eo74) | (go_at_call 13; (with_reducible refine (w8_awake.calls k4  t275 _ A71.out).mono ?_); rintro e w75 ⟨rfl, hb⟩; have n0_ := aK (Kd.R_below (by (with_reducible repeat (first | apply Kd.R_alloc | apply Kd.R_drewN | apply Kd.R_drew)); exact HO_9.out) hb); have n1_ := aK (Kd.R_below (by (with_reducible repeat (first | apply Kd.R_alloc | apply Kd.R_drewN | apply Kd.R_drew)); exact HO_12.out) hb); have n2_ := aK (Kd.R_below (by (with_reducible repeat (first | apply Kd.R_alloc | apply Kd.R_drewN | apply Kd.R_drew)); exact HO274.out) hb); have n3_ := aK (bSp (by repeat (first | (with_reducible first | exact HB.out | apply bAl | apply pbD | apply bD1) | exact HB.out)) hb); clear HO_9; clear HO_12; clear HO274; clear HB; have HO_9 := n0_; have HO_12 := n1_; have HO274 := n2_; have HB := n3_; clear n0_ n1_ n2_ n3_; (try clear hb); (try clear hb2); (try clear hk); (try clear hi))))
                         go_ret
                         exact ⟨by first | rfl | (simp [eWn, eWs] <;> rfl) | (simp [*, eWn, eWs] <;> rfl), by repeat (first | (with_reducible first | exact HB.out | apply bAl | apply pbD | apply bD1) | exact HB.out)⟩
                        ·
                         rw [if_neg c70] at H
                         have c70b0 : ((t270.length : Int) == 0) = false := beq_eq_false_iff_ne.mpr c70
                         have c70b1 : ((t270.length : Int) != 0) = true := bne_iff_ne.mpr c70
                         have c70b2 : ¬ (t270 = []) := fun h_ => c70 (by rw [h_]; rfl)
                         exact absurd ((oI H).trans hT.out) (by decide)
                       ·
                        rw [if_neg c69] at H
                        have c69b0 : (t271 == t245) = false := beq_eq_false_iff_ne.mpr c69
                        have c69b1 : (t271 != t245) = true := bne_iff_ne.mpr c69
                        exact absurd ((oI H).trans hT.out) (by decide)
                      ·
                       rw [if_neg c68] at H
                       have c68b0 : (t272 == t246) = false := beq_eq_false_iff_ne.mpr c68
                       have c68b1 : (t272 != t246) = true := bne_iff_ne.mpr c68
                       exact absurd ((oI H).trans hT.out) (by decide)
                     ·
                      rw [if_neg c67] at H
                      have c67b0 : (t255 == (wrap64 (t245 + 1))) = false := beq_eq_false_iff_ne.mpr c67
                      have c67b1 : (t255 != (wrap64 (t245 + 1))) = true := bne_iff_ne.mpr c67
                      exact absurd ((oI H).trans hT.out) (by decide)
                    ·
                     rw [if_neg c66] at H
                     have c66b0 : (t250 == (wrap64 (t245 + 1))) = false := beq_eq_false_iff_ne.mpr c66
                     have c66b1 : (t250 != (wrap64 (t245 + 1))) = true := bne_iff_ne.mpr c66
                     exact absurd ((oI H).trans hT.out) (by decide)
                   ·
                    rw [if_neg c64] at H
                    exact absurd H (by simp)
                  ·
                   rw [if_neg c63] at H
                   exact absurd H (by simp)
          ·
           rw [if_neg c23] at H
           exact absurd H (by simp)
         ·
          rw [if_neg c21] at H
          exact absurd H (by simp)
        ·
         rw [if_neg c20] at H
         exact absurd H (by simp)
       ·
        rw [if_neg c19] at H
        exact absurd H (by simp)
def w8_RulesNothing.Pure : Prop := ∀ (a0 : ByteArray) (a1 : ByteArray) (a2 : ByteArray), a0.size ≤ 140737488351232 → a1.size ≤ 140737488351232 → a2.size ≤ 140737488351232 → ∃ k, w8_RulesNothing.f k a0 a1 a2 = some true
theorem w8_RulesNothing.walk (P : w8_RulesNothing.Pure) (a0 : ByteArray) (a1 : ByteArray) (a2 : ByteArray) (w : World) (w0 : a0.size ≤ 140737488351232) (w1 : a1.size ≤ 140737488351232) (w2 : a2.size ≤ 140737488351232) :
  Calls Tryz.prog 6 #[.string a0, .string a1, .string a2] w fun e w' => e = .returned (.bool true) ∧ Below w.heap.size w w' := by
 obtain ⟨k, h⟩ := P a0 a1 a2 w0 w1 w2
 refine (w8_RulesNothing.calls k a0 a1 a2 true w h rfl).mono ?_
 rintro e w' ⟨rfl, hd⟩
 exact ⟨rfl, hd⟩
end Go.Proofs.YtgjkjoocnkdckaaGreatDoor.PChk
