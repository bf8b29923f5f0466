import Derived.Test.YtbpbniemjjhecaaGreatZPChk0
import Derived.Test.YtbpbniemjjhecaaGreatZPChk7
import Derived.Test.YtbpbniemjjhecaaGreatZPChk16
namespace Go.Proofs.YtbpbniemjjhecaaGreat.PChk
open Go.RowKit Go.Proofs.YtbpbniemjjhecaaGreat.G Go.Proofs.YtbpbniemjjhecaaGreatW.PrintWords Go.Proofs.YtbpbniemjjhecaaGreatW.PrintLast Go.Proofs.YtbpbniemjjhecaaGreatW.PrintMore
attribute [local go_sem] max2_int min2_int max_two min_two max_three min_three max_four min_four
set_option linter.unusedVariables false
set_option linter.unusedSimpArgs false
set_option maxHeartbeats 8000000
set_option maxRecDepth 100000
mutual
def r8_Parse.l0 : Nat → ByteArray → List (S50) → Int → Int → Int → Option ((List (S50)) × Int × Int)
 | 0, _, _, _, _, _ => none
 | k + 1, x0, x5, x6, x7, x8 => if x8 ≤ (x0.size : Int) then (if x8 < (x0.size : Int) then (if 0 ≤ x8 then (r8_Parse.j1 k x0 x5 x6 x7 x8 ((bt x0 x8) != 10)) else (none)) else (r8_Parse.j1 k x0 x5 x6 x7 x8 false)) else (some (x5, 0, 0))
def r8_Parse.j1 : Nat → ByteArray → List (S50) → Int → Int → Int → Bool → Option ((List (S50)) × Int × Int)
 | 0, _, _, _, _, _, _ => none
 | k + 1, x0, x5, x6, x7, x8, x30 => if x30 = true then (r8_Parse.l0 k x0 x5 x6 x7 (wrap64 (x8 + 1))) else (if 0 ≤ x7 then (if x7 ≤ x8 then (if x8 ≤ (x0.size : Int) then (if (x0.extract (x7 : Int).toNat (x8 : Int).toNat).toList = ([] : List UInt8) then (r8_Parse.j2 k x0 x5 x6 x8 (x0.extract (x7 : Int).toNat (x8 : Int).toNat) false) else (if 0 < ((x0.extract (x7 : Int).toNat (x8 : Int).toNat).size : Int) then (r8_Parse.j2 k x0 x5 x6 x8 (x0.extract (x7 : Int).toNat (x8 : Int).toNat) ((bt (x0.extract (x7 : Int).toNat (x8 : Int).toNat) 0) != 35)) else (none))) else (none)) else (none)) else (none))
def r8_Parse.j2 : Nat → ByteArray → List (S50) → Int → Int → ByteArray → Bool → Option ((List (S50)) × Int × Int)
 | 0, _, _, _, _, _, _ => none
 | k + 1, x0, x5, x6, x8, x9, x41 => if x41 = true then ((r8_rule.f k x9 x6).bind fun bt278 => (if bt278.2.2.2.2.2 = true then (if (x5.length : Int) = 400 then (some (([] : List (S50)), x6, 4)) else (if x5.length < 2513169434916 then (r8_Parse.l0 k x0 (x5 ++ [(⟨bt278.1, bt278.2.1, bt278.2.2.1, bt278.2.2.2.1, bt278.2.2.2.2.1⟩ : S50)]) (wrap64 (x6 + 1)) (wrap64 (x8 + 1)) (wrap64 (x8 + 1))) else (none))) else (some (([] : List (S50)), x6, 6)))) else (r8_Parse.l0 k x0 x5 (wrap64 (x6 + 1)) (wrap64 (x8 + 1)) (wrap64 (x8 + 1)))
end
def r8_Parse.f (k : Nat) (a0 : ByteArray) : Option ((List (S50)) × Int × Int) := if (a0.size : Int) > 65536 then (some (([] : List (S50)), 0, 4)) else (r8_Parse.l0 k a0 ([] : List (S50)) 1 0 0)
theorem r8_Parse.mono_l : ∀ k, (∀ y0 y1 y2 y3 y4, LeO (r8_Parse.l0 k y0 y1 y2 y3 y4) (r8_Parse.l0 (k + 1) y0 y1 y2 y3 y4)) ∧ (∀ y0 y1 y2 y3 y4 y5, LeO (r8_Parse.j1 k y0 y1 y2 y3 y4 y5) (r8_Parse.j1 (k + 1) y0 y1 y2 y3 y4 y5)) ∧ (∀ y0 y1 y2 y3 y4 y5, LeO (r8_Parse.j2 k y0 y1 y2 y3 y4 y5) (r8_Parse.j2 (k + 1) y0 y1 y2 y3 y4 y5))
 | 0 => ⟨fun _ _ _ _ _ r h => by simp [r8_Parse.l0] at h, fun _ _ _ _ _ _ r h => by simp [r8_Parse.j1] at h, fun _ _ _ _ _ _ r h => by simp [r8_Parse.j2] at h⟩
 | k + 1 => by
  obtain ⟨ih0, ih1, ih2⟩ := r8_Parse.mono_l k
  refine ⟨?_, ?_, ?_⟩
  ·
   intro y0 y1 y2 y3 y4
   unfold r8_Parse.l0
   repeat' first
   | (with_reducible first | exact ih0 _ _ _ _ _ | exact ih1 _ _ _ _ _ _ | exact ih2 _ _ _ _ _ _ | exact r8_rule.mono _ _ _ | exact LeO.refl _ | exact LeO.none _ | refine LeO.ite ?_ ?_ | refine LeO.bind ?_ (fun _ => ?_))
   | exact ih0 _ _ _ _ _
   | exact ih1 _ _ _ _ _ _
   | exact ih2 _ _ _ _ _ _
   | exact r8_rule.mono _ _ _
   | exact LeO.none _
   | refine LeO.ite ?_ ?_
   | refine LeO.bind ?_ (fun _ => ?_)
  ·
   intro y0 y1 y2 y3 y4 y5
   unfold r8_Parse.j1
   repeat' first
   | (with_reducible first | exact ih0 _ _ _ _ _ | exact ih1 _ _ _ _ _ _ | exact ih2 _ _ _ _ _ _ | exact r8_rule.mono _ _ _ | exact LeO.refl _ | exact LeO.none _ | refine LeO.ite ?_ ?_ | refine LeO.bind ?_ (fun _ => ?_))
   | exact ih0 _ _ _ _ _
   | exact ih1 _ _ _ _ _ _
   | exact ih2 _ _ _ _ _ _
   | exact r8_rule.mono _ _ _
   | exact LeO.none _
   | refine LeO.ite ?_ ?_
   | refine LeO.bind ?_ (fun _ => ?_)
  ·
   intro y0 y1 y2 y3 y4 y5
   unfold r8_Parse.j2
   repeat' first
   | (with_reducible first | exact ih0 _ _ _ _ _ | exact ih1 _ _ _ _ _ _ | exact ih2 _ _ _ _ _ _ | exact r8_rule.mono _ _ _ | exact LeO.refl _ | exact LeO.none _ | refine LeO.ite ?_ ?_ | refine LeO.bind ?_ (fun _ => ?_))
   | exact ih0 _ _ _ _ _
   | exact ih1 _ _ _ _ _ _
   | exact ih2 _ _ _ _ _ _
   | exact r8_rule.mono _ _ _
   | exact LeO.none _
   | refine LeO.ite ?_ ?_
   | refine LeO.bind ?_ (fun _ => ?_)
theorem r8_Parse.calls (k : Nat) (a0 : ByteArray) (r1 : List (S50)) (r2 : Int) (r3 : Int) (w : World) (h : r8_Parse.f k a0 = some (r1, r2, r3)) :
  Calls Tryz.prog 63 #[.string a0] w fun e w' => ∃ v0_ : Value, e = .returned (.tuple #[v0_, .int .i64 r2, .int .i64 r3]) ∧ Kd.R k50 50 w' w.heap.size (fun _ => True) v0_ r1 ∧ Below w.heap.size w w' := by
 have hu50 := Tryz.underlying50
 have HB := aK (Below.refl w.heap.size w)
 have H : (if (a0.size : Int) > 65536 then (some (([] : List (S50)), 0, 4)) else (r8_Parse.l0 k a0 ([] : List (S50)) 1 0 0)) = some (r1, r2, r3) := h
 clear h
 by_cases c2 : (a0.size : Int) > 65536
 rotate_left
 ·
  rw [if_neg c2] at H; have c2b0 : decide (65536 < (a0.size : Int)) = false := decide_eq_false c2
  have c2b1 : decide (65536 < a0.size) = false := decide_eq_false (by omega)
  clear c2; have H' := aK H; clear H
  go_enter Tryz.func63, Tryz.ntmps63
  go_wp2
  go_loopg [5, 6, 7, 8] k (fun kq v5 v6 v7 v8 w' => ∃ (x5_1 : List (S50)) (x6_1 : Int) (x7_1 : Int) (x8_1 : Int), v6 = .int .i64 x6_1 ∧ v7 = .int .i64 x7_1 ∧ v8 = .int .i64 x8_1 ∧ Aside0 (r8_Parse.l0 kq a0 x5_1 x6_1 x7_1 x8_1 = some (r1, r2, r3)) ∧ Aside0 (kq ≤ k) ∧ Aside0 (Kd.R k50 50 w' w.heap.size (fun _ => True) v5 x5_1) ∧ Aside0 (Below w.heap.size w w'))
  case atStart => exact ⟨(([] : List (S50))), (1), (0), (0), sX, sX, sX, H', ⟨Nat.le_refl _⟩, ⟨by first | exact Kd.R_nil _ _ _ _ _ | exact Kd.N_nil _ _ _ _ _ | exact Kd.V_nil _ _ _ _ _ | exact Kd.Q_nil _ _ _ _ _ | exact Kd.S_nil _ _ _ _ _⟩, ⟨bX⟩⟩
  case round =>
   clear H'
   try clear c2
   try clear c2b0
   try clear c2b1
   try clear p2
   obtain ⟨x5_1, x6_1, x7_1, x8_1, rfl, rfl, rfl, HA, HK1, HO_5, HB⟩ := hrel
   cases gk with
   | zero => exact absurd HA.out (by simp [r8_Parse.l0])
   | succ k1 =>
    have H := HA.out; clear HA
    simp only [r8_Parse.l0] at H
    by_cases c3 : x8_1 ≤ (a0.size : Int)
    rotate_left
    ·
     rw [if_neg c3] at H; have c3b0 : decide (x8_1 ≤ (a0.size : Int)) = false := decide_eq_false c3; clear c3
     simp only [Option.some.injEq, Prod.mk.injEq] at H
     obtain ⟨rfl, rfl, rfl⟩ := H
     go_wp2
     go_ret3
     exact ⟨_, eX, rX HO_5.out, bX⟩
    rw [if_pos c3] at H; have c3b0 : decide (x8_1 ≤ (a0.size : Int)) = true := decide_eq_true c3; clear c3; have HC4 := aK H; clear H
    go_upto_region 8 with (fail)
    go_cut [30] (fun v30 wc => ∃ (kq : Nat) (x30_3 : Bool), v30 = .bool x30_3 ∧ Aside0 (r8_Parse.j1 kq a0 x5_1 x6_1 x7_1 x8_1 x30_3 = some (r1, r2, r3)) ∧ Aside0 (kq ≤ k1) ∧ Aside0 (Kd.R k50 50 wc w.heap.size (fun _ => True) u5 x5_1) ∧ Aside0 (Below w.heap.size w wc))
    case first =>
     have H := HC4.out; clear HC4
     by_cases c5 : x8_1 < (a0.size : Int)
     rotate_left
     ·
      rw [if_neg c5] at H; have c5b0 : decide (x8_1 < (a0.size : Int)) = false := decide_eq_false c5; clear c5
      (first | rw [c5b0] | (simp only [i64_w, i32_w]; rw [c5b0]) | skip)
      have H' := aK H; clear H
      go_wp2
      go_meet
      case rel => exact ⟨_, (false), sX, H', ⟨by have := HK1.out; first | omega | exact Nat.le_refl _⟩, ⟨rX HO_5.out⟩, ⟨bX⟩⟩
     rw [if_pos c5] at H; have c5b0 : decide (x8_1 < (a0.size : Int)) = true := decide_eq_true c5; clear c5
     (first | rw [c5b0] | (simp only [i64_w, i32_w]; rw [c5b0]) | skip)
     by_cases c6 : 0 ≤ x8_1
     rotate_left
     ·
      rw [if_neg c6] at H
      exact absurd H (by simp)
     rw [if_pos c6] at H; have c6b0 : decide (0 ≤ x8_1) = true := decide_eq_true c6; clear c6; have H' := aK H; clear H; have p7 : 0 ≤ (x8_1 : Int) := oA; have q7 : x8_1 < (a0.size : Int) := oA
     have hx7 := bt_at a0 x8_1
     replace p7 := eq_true p7; replace q7 := eq_true q7
     go_wp2
     go_meet
     case rel => exact ⟨_, (((bt a0 x8_1) != 10)), sX, H', ⟨by have := HK1.out; first | omega | exact Nat.le_refl _⟩, ⟨rX HO_5.out⟩, ⟨bX⟩⟩
    case rest =>
     clear HC4
     try clear c2
     try clear c2b0
     try clear c2b1
     try clear p2
     try clear c3
     try clear c3b0
     try clear c5
     try clear c5b0
     try clear c6
     try clear c6b0
     try clear p7
     try clear q7
     try clear hx7
     try clear p2
     try clear p7
     try clear q7
     obtain ⟨kq, x30_3, rfl, HA, HJ3, HO_5, HB⟩ := hcut
     cases kq with
     | zero => exact absurd HA.out (by simp [r8_Parse.j1])
     | succ kj3 =>
      have H := HA.out; clear HA
      simp only [r8_Parse.j1] at H
      by_cases c8 : x30_3 = true
      rotate_left
      ·
       replace c8 := Bool.eq_false_iff.mpr c8; subst c8
       have H1 : (if 0 ≤ x7_1 then (if x7_1 ≤ x8_1 then (if x8_1 ≤ (a0.size : Int) then (if (a0.extract (x7_1 : Int).toNat (x8_1 : Int).toNat).toList = ([] : List UInt8) then (r8_Parse.j2 kj3 a0 x5_1 x6_1 x8_1 (a0.extract (x7_1 : Int).toNat (x8_1 : Int).toNat) false) else (if 0 < ((a0.extract (x7_1 : Int).toNat (x8_1 : Int).toNat).size : Int) then (r8_Parse.j2 kj3 a0 x5_1 x6_1 x8_1 (a0.extract (x7_1 : Int).toNat (x8_1 : Int).toNat) ((bt (a0.extract (x7_1 : Int).toNat (x8_1 : Int).toNat) 0) != 35)) else (none))) else (none)) else (none)) else (none)) = some (r1, r2, r3) := by rw [if_neg (show ¬ (false = true) by decide)] at H; exact H
       clear H
       have H := H1
       clear H1
       by_cases c9 : 0 ≤ x7_1
       rotate_left
       ·
        rw [if_neg c9] at H
        exact absurd H (by simp)
       rw [if_pos c9] at H; have c9b0 := eq_true c9; have c9b1 : decide (0 ≤ x7_1) = true := decide_eq_true c9; clear c9
       by_cases c10 : x7_1 ≤ x8_1
       rotate_left
       ·
        rw [if_neg c10] at H
        exact absurd H (by simp)
       rw [if_pos c10] at H; have c10b0 := eq_true c10; have c10b1 : decide (x7_1 ≤ x8_1) = true := decide_eq_true c10; clear c10
       by_cases c11 : x8_1 ≤ (a0.size : Int)
       rotate_left
       ·
        rw [if_neg c11] at H
        exact absurd H (by simp)
       rw [if_pos c11] at H; have c11b0 := eq_true c11; have c11b1 : decide (x8_1 ≤ (a0.size : Int)) = true := decide_eq_true c11; clear c11; have HC12 := aK H; clear H
       go_upto_region 10 with (fail)
       go_cut [41] (fun v41 wc => ∃ (kq : Nat) (x41_11 : Bool), v41 = .bool x41_11 ∧ Aside0 (r8_Parse.j2 kq a0 x5_1 x6_1 x8_1 (a0.extract (x7_1 : Int).toNat (x8_1 : Int).toNat) x41_11 = some (r1, r2, r3)) ∧ Aside0 (kq ≤ kj3) ∧ Aside0 (Kd.R k50 50 wc w.heap.size (fun _ => True) u5 x5_1) ∧ Aside0 (Below w.heap.size w wc))
       case first =>
        have H := HC12.out; clear HC12
        by_cases c13 : (a0.extract (x7_1 : Int).toNat (x8_1 : Int).toNat).toList = ([] : List UInt8)
        rotate_left
        ·
         rw [if_neg c13] at H; obtain ⟨c13b0, c13b1⟩ := bN c13
         (first | rw [c13b0] | (simp only [i64_w, i32_w]; rw [c13b0]) | skip)
         by_cases c14 : 0 < ((a0.extract (x7_1 : Int).toNat (x8_1 : Int).toNat).size : Int)
         rotate_left
         ·
          rw [if_neg c14] at H
          exact absurd H (by simp)
         rw [if_pos c14] at H; have c14b0 : decide (0 < ((a0.extract (x7_1 : Int).toNat (x8_1 : Int).toNat).size : Int)) = true := decide_eq_true c14
         have c14b1 : decide (0 < (a0.extract (x7_1 : Int).toNat (x8_1 : Int).toNat).size) = true := decide_eq_true (by omega)
         clear c14; have H' := aK H; clear H
         have p15 : 0 ≤ (0 : Int) := (by omega)
         have q15 : 0 < (a0.extract (x7_1 : Int).toNat (x8_1 : Int).toNat).size := (by have : (0 : Int) < ((a0.extract (x7_1 : Int).toNat (x8_1 : Int).toNat).size : Int) := oA; omega)
         have hx15 : ∀ h : 0 < (a0.extract (x7_1 : Int).toNat (x8_1 : Int).toNat).size, (((a0.extract (x7_1 : Int).toNat (x8_1 : Int).toNat)[0]'h).toNat : Int) = bt (a0.extract (x7_1 : Int).toNat (x8_1 : Int).toNat) 0 := bt_at (a0.extract (x7_1 : Int).toNat (x8_1 : Int).toNat) 0
         clear p15
         have qi15 : (0 < ((a0.extract (x7_1 : Int).toNat (x8_1 : Int).toNat).size : Int)) = True := eq_true (oA)
         have q15j : (0 < x8_1.toNat - x7_1.toNat) = True := eq_true (by have h_ := q15; rw [ByteArray.size_extract] at h_; omega)
         replace q15 := eq_true q15
         go_wp2
         go_meet
         case rel => exact ⟨_, (((bt (a0.extract (x7_1 : Int).toNat (x8_1 : Int).toNat) 0) != 35)), sX, H', ⟨by have := HK1.out; have := HJ3.out; first | omega | exact Nat.le_refl _⟩, ⟨rX HO_5.out⟩, ⟨bX⟩⟩
        rw [if_pos c13] at H; obtain ⟨c13b0, c13b1⟩ := bY c13; clear c13
        (first | rw [c13b0] | (simp only [i64_w, i32_w]; rw [c13b0]) | skip)
        have H' := aK H; clear H
        go_wp2
        go_meet
        case rel => exact ⟨_, (false), sX, H', ⟨by have := HK1.out; have := HJ3.out; first | omega | exact Nat.le_refl _⟩, ⟨rX HO_5.out⟩, ⟨bX⟩⟩
       case rest =>
        clear HC12
        try clear c1
        try clear p1
        try clear q1
        try clear hx1
        try clear qi1
        try clear c2
        try clear c2b0
        try clear c2b1
        try clear p2
        try clear c3
        try clear c3b0
        try clear c5
        try clear c5b0
        try clear c6
        try clear c6b0
        try clear p6
        try clear p7
        try clear q7
        try clear hx7
        try clear c8
        try clear c9
        try clear c9b0
        try clear c9b1
        try clear c10
        try clear c10b0
        try clear c10b1
        try clear c11
        try clear c11b0
        try clear c11b1
        try clear c13
        try clear c13b0
        try clear c13b1
        try clear c14
        try clear c14b0
        try clear c14b1
        try clear p15
        try clear q15
        try clear hx15
        try clear qi15
        try clear p15
        try clear p2
        try clear p7
        try clear q15
        try clear q7
        obtain ⟨kq, x41_11, rfl, HA, HJ11, HO_5, HB⟩ := hcut
        cases kq with
        | zero => exact absurd HA.out (by simp [r8_Parse.j2])
        | succ kj11 =>
         have H := HA.out; clear HA
         simp only [r8_Parse.j2] at H
         by_cases c16 : x41_11 = true
         rotate_left
         ·
          replace c16 := Bool.eq_false_iff.mpr c16; subst c16
          have H1 : (r8_Parse.l0 kj11 a0 x5_1 (wrap64 (x6_1 + 1)) (wrap64 (x8_1 + 1)) (wrap64 (x8_1 + 1))) = some (r1, r2, r3) := by rw [if_neg (show ¬ (false = true) by decide)] at H; exact H
          clear H
          have H := H1
          clear H1; have H' := aK H; clear H
          go_wp2
          go_roundg kj11
          case measure => have := HK1.out; have := HJ3.out; have := HJ11.out; omega
          case rel => exact ⟨(x5_1), (wrap64 (x6_1 + 1)), (wrap64 (x8_1 + 1)), (wrap64 (x8_1 + 1)), sX, sX, sX, H', ⟨by have := HK1.out; have := HJ3.out; have := HJ11.out; omega⟩, ⟨rX HO_5.out⟩, ⟨bX⟩⟩
         subst c16
         have H1 : ((r8_rule.f kj11 (a0.extract (x7_1 : Int).toNat (x8_1 : Int).toNat) x6_1).bind fun bt278 => (if bt278.2.2.2.2.2 = true then (if (x5_1.length : Int) = 400 then (some (([] : List (S50)), x6_1, 4)) else (if x5_1.length < 2513169434916 then (r8_Parse.l0 kj11 a0 (x5_1 ++ [(⟨bt278.1, bt278.2.1, bt278.2.2.1, bt278.2.2.2.1, bt278.2.2.2.2.1⟩ : S50)]) (wrap64 (x6_1 + 1)) (wrap64 (x8_1 + 1)) (wrap64 (x8_1 + 1))) else (none))) else (some (([] : List (S50)), x6_1, 6)))) = some (r1, r2, r3) := by rw [if_pos rfl] at H; exact H
         clear H
         have H := H1
         clear H1
         obtain ⟨⟨t278, t279, t280, t281, t282, t283⟩, A17, H⟩ := oC H
         try dsimp only at H
         by_cases c18 : t283 = true
         rotate_left
         ·
          replace c18 := Bool.eq_false_iff.mpr c18; subst c18
          have H1 : (some (([] : List (S50)), x6_1, 6)) = some (r1, r2, r3) := by rw [if_neg (show ¬ (false = true) by decide)] at H; exact H
          clear H
          have H := H1
          clear H1
          simp only [Option.some.injEq, Prod.mk.injEq] at H
          obtain ⟨rfl, rfl, rfl⟩ := H
          go_wp2_with (first | ((with_reducible refine gate_callee (f := 103) rfl ?_); refine gO 45 Tryz.func103 #[.string (a0.extract (x7_1 : Int).toNat (x8_1 : Int).toNat), .int .i64 x6_1] ?_; (with_reducible refine (r8_rule.calls kj11 (a0.extract (x7_1 : Int).toNat (x8_1 : Int).toNat) x6_1 t278 t279 t280 t281 t282 false _ A17.out).mono ?_); rintro e w30 ⟨rfl, hb⟩; refine ⟨_, rfl, ?_⟩; replace HO_5 := aK (Kd.R_below (rX HO_5.out) hb); replace HB := aK (bSp bX hb); clear hb) | ((with_reducible refine gate_dst (N := 10) rfl ?_); refine box_event ?hg (N := 10) ?hd (cs := #[.int .i64 0, .string (⟨#[]⟩ : ByteArray), .string (⟨#[]⟩ : ByteArray), .int .i64 0, .int .i64 0]) (t := 50) ?hr ?_; (case hd => rfl); (case hg => rfl); (case hr => first | (go_simp; done) | (go_simp; rfl)); intro gb284 hg w31 hbox hb; have n0_ := aK (Kd.R_below (Kd.R_elderB (rX HO_5.out) gb284 (Nat.le_of_eq hg.symm)) hb); have n1_ := aK (bSp bX hb); have n2_ := aK (hbox); have n3_ := aK ((by rw [hg]; exact (bSz bX) : w.heap.size ≤ gb284)); have n4_ := aK ((by rw [hg]; exact (bSz bX) : w.heap.size ≤ gb284)); clear HO_5; clear HB; have HO_5 := n0_; have HB := n1_; have BK284 := n2_; have GW284 := n3_; have GE284 := n4_; clear n0_ n1_ n2_ n3_ n4_; clear hb hbox hg; have hcz32_0 : w31.cell? ⟨gb284, 0, none⟩ = some (.int .i64 0) := (kCe BK284.out 0).trans rfl; have hcz32_1 : w31.cell? ⟨gb284, 1, none⟩ = some (.string (⟨#[]⟩ : ByteArray)) := (kCe BK284.out 1).trans rfl; have hcz32_2 : w31.cell? ⟨gb284, 2, none⟩ = some (.string (⟨#[]⟩ : ByteArray)) := (kCe BK284.out 2).trans rfl; have hcz32_3 : w31.cell? ⟨gb284, 3, none⟩ = some (.int .i64 0) := (kCe BK284.out 3).trans rfl; have hcz32_4 : w31.cell? ⟨gb284, 4, none⟩ = some (.int .i64 0) := (kCe BK284.out 4).trans rfl; have hfz32_0 := bFz BK284.out 0; have hfz32_1 := bFz BK284.out 1; have hfz32_2 := bFz BK284.out 2; have hfz32_3 := bFz BK284.out 3; have hfz32_4 := bFz BK284.out 4))
          go_ret3
          exact ⟨_, eX, by first | exact Kd.R_nil _ _ _ _ _ | exact Kd.N_nil _ _ _ _ _ | exact Kd.V_nil _ _ _ _ _ | exact Kd.Q_nil _ _ _ _ _ | exact Kd.S_nil _ _ _ _ _, bX1 GE284.out⟩
         subst c18
         have H1 : (if (x5_1.length : Int) = 400 then (some (([] : List (S50)), x6_1, 4)) else (if x5_1.length < 2513169434916 then (r8_Parse.l0 kj11 a0 (x5_1 ++ [(⟨t278, t279, t280, t281, t282⟩ : S50)]) (wrap64 (x6_1 + 1)) (wrap64 (x8_1 + 1)) (wrap64 (x8_1 + 1))) else (none))) = some (r1, r2, r3) := by rw [if_pos rfl] at H; exact H
         clear H
         have H := H1
         clear H1
         by_cases c19 : (x5_1.length : Int) = 400
         rotate_left
         ·
          rw [if_neg c19] at H; obtain ⟨c19b0, c19b1⟩ := bN c19
          by_cases c24 : x5_1.length < 2513169434916
          rotate_left
          ·
           rw [if_neg c24] at H
           exact absurd H (by simp)
          rw [if_pos c24] at H; have LMc24 := aK c24; clear c24
          obtain ⟨y285, hy285⟩ : ∃ y_ : List (S50), y_ = (x5_1 ++ [(⟨t278, t279, t280, t281, t282⟩ : S50)]) := ⟨_, rfl⟩
          replace H : (r8_Parse.l0 kj11 a0 y285 (wrap64 (x6_1 + 1)) (wrap64 (x8_1 + 1)) (wrap64 (x8_1 + 1))) = some (r1, r2, r3) := by first | (rw [hy285]; with_reducible exact H) | (have H2_ := (Option.bind_some _ _).symm.trans H; rw [hy285]; with_reducible exact H2_) | (have H2_ := (Option.bind_some _ _).symm.trans H; with_reducible exact H2_) | with_reducible exact H | (rw [hy285]; exact H) | exact H
          have Ny285 := aK hy285; clear hy285; have H' := aK H; clear H
          go_wp2_with (first | ((with_reducible refine gate_callee (f := 103) rfl ?_); refine gO 45 Tryz.func103 #[.string (a0.extract (x7_1 : Int).toNat (x8_1 : Int).toNat), .int .i64 x6_1] ?_; (with_reducible refine (r8_rule.calls kj11 (a0.extract (x7_1 : Int).toNat (x8_1 : Int).toNat) x6_1 t278 t279 t280 t281 t282 true _ A17.out).mono ?_); rintro e w25 ⟨rfl, hb⟩; refine ⟨_, rfl, ?_⟩; replace HO_5 := aK (Kd.R_below (rX HO_5.out) hb); replace HB := aK (bSp bX hb); clear hb) | ((with_reducible refine gate_dst (N := 10) rfl ?_); refine box_event ?hg (N := 10) ?hd (cs := #[.int .i64 0, .string (⟨#[]⟩ : ByteArray), .string (⟨#[]⟩ : ByteArray), .int .i64 0, .int .i64 0]) (t := 50) ?hr ?_; (case hd => rfl); (case hg => rfl); (case hr => first | (go_simp; done) | (go_simp; rfl)); intro gb284 hg w26 hbox hb; have n0_ := aK (Kd.R_below (Kd.R_elderB (rX HO_5.out) gb284 (Nat.le_of_eq hg.symm)) hb); have n1_ := aK (bSp bX hb); have n2_ := aK (hbox); have n3_ := aK ((by rw [hg]; exact (bSz bX) : w.heap.size ≤ gb284)); have n4_ := aK ((by rw [hg]; exact (bSz bX) : w.heap.size ≤ gb284)); clear HO_5; clear HB; have HO_5 := n0_; have HB := n1_; have BK284 := n2_; have GW284 := n3_; have GE284 := n4_; clear n0_ n1_ n2_ n3_ n4_; clear hb hbox hg; have hcz27_0 : w26.cell? ⟨gb284, 0, none⟩ = some (.int .i64 0) := (kCe BK284.out 0).trans rfl; have hcz27_1 : w26.cell? ⟨gb284, 1, none⟩ = some (.string (⟨#[]⟩ : ByteArray)) := (kCe BK284.out 1).trans rfl; have hcz27_2 : w26.cell? ⟨gb284, 2, none⟩ = some (.string (⟨#[]⟩ : ByteArray)) := (kCe BK284.out 2).trans rfl; have hcz27_3 : w26.cell? ⟨gb284, 3, none⟩ = some (.int .i64 0) := (kCe BK284.out 3).trans rfl; have hcz27_4 : w26.cell? ⟨gb284, 4, none⟩ = some (.int .i64 0) := (kCe BK284.out 4).trans rfl; have hfz27_0 := bFz BK284.out 0; have hfz27_1 := bFz BK284.out 1; have hfz27_2 := bFz BK284.out 2; have hfz27_3 := bFz BK284.out 3; have hfz27_4 := bFz BK284.out 4; obtain ⟨Ao28, co28, eo28⟩ := Kd.R_slice HO_5.out; subst eo28) | ((with_reducible refine gate_builtin (b := .append) (xs := #[.tmp 55, .tmp 57]) rfl ?_); at_builtin; refine Kd.R_append k50 (w0 := w) w.heap.size rfl (.tmp 55) (.tmp 57) 22 50 (.agg #[(.int .i64 0), (.string ⟨#[]⟩), (.string ⟨#[]⟩), (.int .i64 0), (.int .i64 0)]) 56 rfl Tryz.underlying22 info50 rfl (by decide) (by omega) (.slice Ao28 x5_1.length co28) x5_1 (⟨t278, t279, t280, t281, t282⟩ : S50) [.int .i64 t278, .string t279, .string t280, .int .i64 t281, .int .i64 t282] (fun k_ => k_ ≠ gb284) (fun _ => False) rfl (by first | (go_simp; done) | (go_simp; rfl)) ?aP (fun _ hk => hk.elim) ?aF ?aO ?aB ?aS ?aL ?_; (case aP => exact k50_mkM _ _ _ (⟨t278, t279, t280, t281, t282⟩ : S50)); (case aB => exact (bX1 GE284.out)); (case aF => exact (fun k_ hk => Kd.freshB (g := gb284) (o := .cells #[.int .i64 t278, .string t279, .string t280, .int .i64 t281, .int .i64 t282] 50 (0, 0)) (by (with_reducible repeat (first | refine kDN ?_ _ | refine kDr ?_ | refine kAl ?_ _)); refine blk_put (cs := #[.int .i64 t278, .string t279, .string t280, .int .i64 t281, .int .i64 0]) ?_ 4 _ rfl; (with_reducible repeat (first | refine kDN ?_ _ | refine kDr ?_ | refine kAl ?_ _)); refine blk_put (cs := #[.int .i64 t278, .string t279, .string t280, .int .i64 0, .int .i64 0]) ?_ 3 _ rfl; (with_reducible repeat (first | refine kDN ?_ _ | refine kDr ?_ | refine kAl ?_ _)); refine blk_put (cs := #[.int .i64 t278, .string t279, .string (⟨#[]⟩ : ByteArray), .int .i64 0, .int .i64 0]) ?_ 2 _ rfl; (with_reducible repeat (first | refine kDN ?_ _ | refine kDr ?_ | refine kAl ?_ _)); refine blk_put (cs := #[.int .i64 t278, .string (⟨#[]⟩ : ByteArray), .string (⟨#[]⟩ : ByteArray), .int .i64 0, .int .i64 0]) ?_ 1 _ rfl; (with_reducible repeat (first | refine kDN ?_ _ | refine kDr ?_ | refine kAl ?_ _)); refine blk_put (cs := #[.int .i64 0, .string (⟨#[]⟩ : ByteArray), .string (⟨#[]⟩ : ByteArray), .int .i64 0, .int .i64 0]) ?_ 0 _ rfl; (with_reducible repeat (first | refine kDN ?_ _ | refine kDr ?_ | refine kAl ?_ _)); exact BK284.out) k_ hk)); (case aO => exact (by (with_reducible repeat (first | apply Kd.R_alloc | apply Kd.R_drewN | apply Kd.R_drew)); exact Kd.R_mono (Kd.R_far (p := ⟨gb284, 4, none⟩) (Kd.R_far (p := ⟨gb284, 3, none⟩) (Kd.R_far (p := ⟨gb284, 2, none⟩) (Kd.R_far (p := ⟨gb284, 1, none⟩) (Kd.R_far (p := ⟨gb284, 0, none⟩) (Kd.R_mono HO_5.out (fun k_ hk => (⟨hk, hk.2⟩ : _ ∧ k_ ≠ gb284))) (fun _ hk => hk.2) (.int .i64 t278)) (fun _ hk => hk.2) (.string t279)) (fun _ hk => hk.2) (.string t280)) (fun _ hk => hk.2) (.int .i64 t281)) (fun _ hk => hk.2) (.int .i64 t282)) (fun _ hk => hk.1.2))); (case aS => exact (bSz (bX1 GE284.out))); (case aL => have := LMc24.out; omega); intro v286 w29 ho hb hg hat; rw [← Ny285.out] at ho; have n0_ := aK (blk_grown (g := gb284) (o := .cells #[.int .i64 t278, .string t279, .string t280, .int .i64 t281, .int .i64 t282] 50 (0, 0)) (by (with_reducible repeat (first | refine kDN ?_ _ | refine kDr ?_ | refine kAl ?_ _)); refine blk_put (cs := #[.int .i64 t278, .string t279, .string t280, .int .i64 t281, .int .i64 0]) ?_ 4 _ rfl; (with_reducible repeat (first | refine kDN ?_ _ | refine kDr ?_ | refine kAl ?_ _)); refine blk_put (cs := #[.int .i64 t278, .string t279, .string t280, .int .i64 0, .int .i64 0]) ?_ 3 _ rfl; (with_reducible repeat (first | refine kDN ?_ _ | refine kDr ?_ | refine kAl ?_ _)); refine blk_put (cs := #[.int .i64 t278, .string t279, .string (⟨#[]⟩ : ByteArray), .int .i64 0, .int .i64 0]) ?_ 2 _ rfl; (with_reducible repeat (first | refine kDN ?_ _ | refine kDr ?_ | refine kAl ?_ _)); refine blk_put (cs := #[.int .i64 t278, .string (⟨#[]⟩ : ByteArray), .string (⟨#[]⟩ : ByteArray), .int .i64 0, .int .i64 0]) ?_ 1 _ rfl; (with_reducible repeat (first | refine kDN ?_ _ | refine kDr ?_ | refine kAl ?_ _)); refine blk_put (cs := #[.int .i64 0, .string (⟨#[]⟩ : ByteArray), .string (⟨#[]⟩ : ByteArray), .int .i64 0, .int .i64 0]) ?_ 0 _ rfl; (with_reducible repeat (first | refine kDN ?_ _ | refine kDr ?_ | refine kAl ?_ _)); exact BK284.out) hg (Kd.R_away HO_5.out (fun _ hk => hk.2))); have n1_ := aK (hb); have n2_ := aK (ho); clear BK284; clear HB; clear HO_5; have BK284 := n0_; have HB := n1_; have HO287 := n2_; clear n0_ n1_ n2_; clear ho hb hg hat))
          go_roundg kj11
          case measure => have := HK1.out; have := HJ3.out; have := HJ11.out; omega
          case rel => exact ⟨(y285), (wrap64 (x6_1 + 1)), (wrap64 (x8_1 + 1)), (wrap64 (x8_1 + 1)), sX, sX, sX, H', ⟨by have := HK1.out; have := HJ3.out; have := HJ11.out; omega⟩, ⟨by (with_reducible repeat (first | apply Kd.R_alloc | apply Kd.R_drewN | apply Kd.R_drew)); exact Kd.R_mono HO287.out (fun _ hk => trivial)⟩, ⟨bX1 GE284.out⟩⟩
         rw [if_pos c19] at H; obtain ⟨c19b0, c19b1⟩ := bY c19; clear c19
         simp only [Option.some.injEq, Prod.mk.injEq] at H
         obtain ⟨rfl, rfl, rfl⟩ := H
         go_wp2_with (first | ((with_reducible refine gate_callee (f := 103) rfl ?_); refine gO 45 Tryz.func103 #[.string (a0.extract (x7_1 : Int).toNat (x8_1 : Int).toNat), .int .i64 x6_1] ?_; (with_reducible refine (r8_rule.calls kj11 (a0.extract (x7_1 : Int).toNat (x8_1 : Int).toNat) x6_1 t278 t279 t280 t281 t282 true _ A17.out).mono ?_); rintro e w20 ⟨rfl, hb⟩; refine ⟨_, rfl, ?_⟩; replace HO_5 := aK (Kd.R_below (rX HO_5.out) hb); replace HB := aK (bSp bX hb); clear hb) | ((with_reducible refine gate_dst (N := 10) rfl ?_); refine box_event ?hg (N := 10) ?hd (cs := #[.int .i64 0, .string (⟨#[]⟩ : ByteArray), .string (⟨#[]⟩ : ByteArray), .int .i64 0, .int .i64 0]) (t := 50) ?hr ?_; (case hd => rfl); (case hg => rfl); (case hr => first | (go_simp; done) | (go_simp; rfl)); intro gb284 hg w21 hbox hb; have n0_ := aK (Kd.R_below (Kd.R_elderB (rX HO_5.out) gb284 (Nat.le_of_eq hg.symm)) hb); have n1_ := aK (bSp bX hb); have n2_ := aK (hbox); have n3_ := aK ((by rw [hg]; exact (bSz bX) : w.heap.size ≤ gb284)); have n4_ := aK ((by rw [hg]; exact (bSz bX) : w.heap.size ≤ gb284)); clear HO_5; clear HB; have HO_5 := n0_; have HB := n1_; have BK284 := n2_; have GW284 := n3_; have GE284 := n4_; clear n0_ n1_ n2_ n3_ n4_; clear hb hbox hg; have hcz22_0 : w21.cell? ⟨gb284, 0, none⟩ = some (.int .i64 0) := (kCe BK284.out 0).trans rfl; have hcz22_1 : w21.cell? ⟨gb284, 1, none⟩ = some (.string (⟨#[]⟩ : ByteArray)) := (kCe BK284.out 1).trans rfl; have hcz22_2 : w21.cell? ⟨gb284, 2, none⟩ = some (.string (⟨#[]⟩ : ByteArray)) := (kCe BK284.out 2).trans rfl; have hcz22_3 : w21.cell? ⟨gb284, 3, none⟩ = some (.int .i64 0) := (kCe BK284.out 3).trans rfl; have hcz22_4 : w21.cell? ⟨gb284, 4, none⟩ = some (.int .i64 0) := (kCe BK284.out 4).trans rfl; have hfz22_0 := bFz BK284.out 0; have hfz22_1 := bFz BK284.out 1; have hfz22_2 := bFz BK284.out 2; have hfz22_3 := bFz BK284.out 3; have hfz22_4 := bFz BK284.out 4; obtain ⟨Ao23, co23, eo23⟩ := Kd.R_slice HO_5.out; subst eo23))
         go_ret3
         exact ⟨_, eX, by first | exact Kd.R_nil _ _ _ _ _ | exact Kd.N_nil _ _ _ _ _ | exact Kd.V_nil _ _ _ _ _ | exact Kd.Q_nil _ _ _ _ _ | exact Kd.S_nil _ _ _ _ _, bX1 GE284.out⟩
      subst c8
      have H1 : (r8_Parse.l0 kj3 a0 x5_1 x6_1 x7_1 (wrap64 (x8_1 + 1))) = some (r1, r2, r3) := by rw [if_pos rfl] at H; exact H
      clear H
      have H := H1
      clear H1; have H' := aK H; clear H
      go_wp2
      go_roundg kj3
      case measure => have := HK1.out; have := HJ3.out; omega
      case rel => exact ⟨(x5_1), (x6_1), (x7_1), (wrap64 (x8_1 + 1)), sX, sX, sX, H', ⟨by have := HK1.out; have := HJ3.out; omega⟩, ⟨rX HO_5.out⟩, ⟨bX⟩⟩
 rw [if_pos c2] at H
 have c2b0 : decide (65536 < (a0.size : Int)) = true := decide_eq_true c2
 have c2b1 : decide (65536 < a0.size) = true := decide_eq_true (by omega)
 clear c2
 simp only [Option.some.injEq, Prod.mk.injEq] at H
 obtain ⟨rfl, rfl, rfl⟩ := H
 go_enter Tryz.func63, Tryz.ntmps63
 go_wp2
 go_ret3
 exact ⟨_, eX, by first | exact Kd.R_nil _ _ _ _ _ | exact Kd.N_nil _ _ _ _ _ | exact Kd.V_nil _ _ _ _ _ | exact Kd.Q_nil _ _ _ _ _ | exact Kd.S_nil _ _ _ _ _, bX⟩
def r8_Base.f  : Option (ByteArray) := some (⟨#[97, 110, 121, 32, 97, 32, 49, 32, 53, 48, 10, 97, 110, 121, 32, 98, 32, 49, 50, 32, 53, 48, 10, 97, 110, 121, 32, 99, 32, 49, 52, 32, 53, 48, 10, 97, 110, 121, 32, 100, 32, 49, 52, 53, 32, 53, 48, 10, 97, 110, 121, 32, 101, 32, 49, 53, 32, 53, 48, 10, 97, 110, 121, 32, 102, 32, 49, 50, 52, 32, 53, 48, 10, 97, 110, 121, 32, 103, 32, 49, 50, 52, 53, 32, 53, 48, 10, 97, 110, 121, 32, 104, 32, 49, 50, 53, 32, 53, 48, 10, 97, 110, 121, 32, 105, 32, 50, 52, 32, 53, 48, 10, 97, 110, 121, 32, 106, 32, 50, 52, 53, 32, 53, 48, 10, 97, 110, 121, 32, 107, 32, 49, 51, 32, 53, 48, 10, 97, 110, 121, 32, 108, 32, 49, 50, 51, 32, 53, 48, 10, 97, 110, 121, 32, 109, 32, 49, 51, 52, 32, 53, 48, 10, 97, 110, 121, 32, 110, 32, 49, 51, 52, 53, 32, 53, 48, 10, 97, 110, 121, 32, 111, 32, 49, 51, 53, 32, 53, 48, 10, 97, 110, 121, 32, 112, 32, 49, 50, 51, 52, 32, 53, 48, 10, 97, 110, 121, 32, 113, 32, 49, 50, 51, 52, 53, 32, 53, 48, 10, 97, 110, 121, 32, 114, 32, 49, 50, 51, 53, 32, 53, 48, 10, 97, 110, 121, 32, 115, 32, 50, 51, 52, 32, 53, 48, 10, 97, 110, 121, 32, 116, 32, 50, 51, 52, 53, 32, 53, 48, 10, 97, 110, 121, 32, 117, 32, 49, 51, 54, 32, 53, 48, 10, 97, 110, 121, 32, 118, 32, 49, 50, 51, 54, 32, 53, 48, 10, 97, 110, 121, 32, 119, 32, 50, 52, 53, 54, 32, 53, 48, 10, 97, 110, 121, 32, 120, 32, 49, 51, 52, 54, 32, 53, 48, 10, 97, 110, 121, 32, 121, 32, 49, 51, 52, 53, 54, 32, 53, 48, 10, 97, 110, 121, 32, 122, 32, 49, 51, 53, 54, 32, 53, 48, 10, 97, 110, 121, 32, 97, 110, 100, 32, 49, 50, 51, 52, 54, 32, 49, 10, 97, 110, 121, 32, 102, 111, 114, 32, 49, 50, 51, 52, 53, 54, 32, 49, 10, 97, 110, 121, 32, 111, 102, 32, 49, 50, 51, 53, 54, 32, 49, 10, 97, 110, 121, 32, 116, 104, 101, 32, 50, 51, 52, 54, 32, 49, 10, 97, 110, 121, 32, 119, 105, 116, 104, 32, 50, 51, 52, 53, 54, 32, 49, 10, 97, 110, 121, 32, 99, 104, 32, 49, 54, 32, 49, 48, 10, 97, 110, 121, 32, 103, 104, 32, 49, 50, 54, 32, 49, 48, 10, 97, 110, 121, 32, 115, 104, 32, 49, 52, 54, 32, 49, 48, 10, 97, 110, 121, 32, 116, 104, 32, 49, 52, 53, 54, 32, 49, 48, 10, 97, 110, 121, 32, 119, 104, 32, 49, 53, 54, 32, 49, 48, 10, 97, 110, 121, 32, 101, 100, 32, 49, 50, 52, 54, 32, 49, 48, 10, 97, 110, 121, 32, 101, 114, 32, 49, 50, 52, 53, 54, 32, 49, 48, 10, 97, 110, 121, 32, 111, 117, 32, 49, 50, 53, 54, 32, 49, 48, 10, 97, 110, 121, 32, 111, 119, 32, 50, 52, 54, 32, 49, 48, 10, 97, 110, 121, 32, 115, 116, 32, 51, 52, 32, 49, 48, 10, 97, 110, 121, 32, 97, 114, 32, 51, 52, 53, 32, 49, 48, 10, 97, 110, 121, 32, 105, 110, 103, 32, 51, 52, 54, 32, 49, 48, 10, 98, 101, 103, 105, 110, 32, 99, 111, 110, 32, 52, 54, 45, 49, 52, 32, 53, 10, 98, 101, 103, 105, 110, 32, 100, 105, 115, 32, 52, 54, 45, 49, 52, 53, 32, 53, 10, 105, 110, 110, 101, 114, 32, 101, 97, 32, 52, 54, 45, 49, 53, 32, 50, 48, 10, 101, 110, 100, 32, 110, 101, 115, 115, 32, 53, 54, 45, 50, 51, 52, 32, 51, 10, 101, 110, 100, 32, 116, 105, 111, 110, 32, 53, 54, 45, 49, 51, 52, 53, 32, 51, 10, 119, 111, 114, 100, 32, 98, 117, 116, 32, 49, 50, 32, 48, 10, 119, 111, 114, 100, 32, 99, 97, 110, 32, 49, 52, 32, 48, 10, 119, 111, 114, 100, 32, 100, 111, 32, 49, 52, 53, 32, 48, 10, 119, 111, 114, 100, 32, 101, 118, 101, 114, 121, 32, 49, 53, 32, 48, 10, 119, 111, 114, 100, 32, 102, 114, 111, 109, 32, 49, 50, 52, 32, 48, 10, 119, 111, 114, 100, 32, 103, 111, 32, 49, 50, 52, 53, 32, 48, 10, 119, 111, 114, 100, 32, 104, 97, 118, 101, 32, 49, 50, 53, 32, 48, 10, 119, 111, 114, 100, 32, 106, 117, 115, 116, 32, 50, 52, 53, 32, 48, 10, 119, 111, 114, 100, 32, 107, 110, 111, 119, 108, 101, 100, 103, 101, 32, 49, 51, 32, 48, 10, 119, 111, 114, 100, 32, 108, 105, 107, 101, 32, 49, 50, 51, 32, 48, 10, 119, 111, 114, 100, 32, 109, 111, 114, 101, 32, 49, 51, 52, 32, 48, 10, 119, 111, 114, 100, 32, 110, 111, 116, 32, 49, 51, 52, 53, 32, 48, 10, 119, 111, 114, 100, 32, 112, 101, 111, 112, 108, 101, 32, 49, 50, 51, 52, 32, 48, 10, 119, 111, 114, 100, 32, 113, 117, 105, 116, 101, 32, 49, 50, 51, 52, 53, 32, 48, 10, 119, 111, 114, 100, 32, 114, 97, 116, 104, 101, 114, 32, 49, 50, 51, 53, 32, 48, 10, 119, 111, 114, 100, 32, 115, 111, 32, 50, 51, 52, 32, 48, 10, 119, 111, 114, 100, 32, 116, 104, 97, 116, 32, 50, 51, 52, 53, 32, 48, 10, 119, 111, 114, 100, 32, 117, 115, 32, 49, 51, 54, 32, 48, 10, 119, 111, 114, 100, 32, 118, 101, 114, 121, 32, 49, 50, 51, 54, 32, 48, 10, 119, 111, 114, 100, 32, 119, 105, 108, 108, 32, 50, 52, 53, 54, 32, 48, 10, 119, 111, 114, 100, 32, 105, 116, 32, 49, 51, 52, 54, 32, 48, 10, 119, 111, 114, 100, 32, 121, 111, 117, 32, 49, 51, 52, 53, 54, 32, 48, 10, 119, 111, 114, 100, 32, 97, 115, 32, 49, 51, 53, 54, 32, 48, 10, 109, 97, 114, 107, 32, 46, 32, 50, 53, 54, 10, 109, 97, 114, 107, 32, 44, 32, 50, 10, 109, 97, 114, 107, 32, 59, 32, 50, 51, 10, 109, 97, 114, 107, 32, 58, 32, 50, 53, 10, 109, 97, 114, 107, 32, 33, 32, 50, 51, 53, 10, 109, 97, 114, 107, 32, 63, 32, 50, 51, 54, 10, 109, 97, 114, 107, 32, 39, 32, 51, 10, 109, 97, 114, 107, 32, 34, 32, 53, 45, 50, 51, 54, 10, 109, 97, 114, 107, 32, 45, 32, 51, 54, 10, 109, 97, 114, 107, 32, 40, 32, 53, 45, 49, 50, 54, 10, 109, 97, 114, 107, 32, 41, 32, 53, 45, 51, 52, 53, 10, 109, 97, 114, 107, 32, 47, 32, 53, 45, 51, 52, 10, 100, 105, 103, 105, 116, 32, 48, 32, 50, 52, 53, 10, 100, 105, 103, 105, 116, 32, 49, 32, 49, 10, 100, 105, 103, 105, 116, 32, 50, 32, 49, 50, 10, 100, 105, 103, 105, 116, 32, 51, 32, 49, 52, 10, 100, 105, 103, 105, 116, 32, 52, 32, 49, 52, 53, 10, 100, 105, 103, 105, 116, 32, 53, 32, 49, 53, 10, 100, 105, 103, 105, 116, 32, 54, 32, 49, 50, 52, 10, 100, 105, 103, 105, 116, 32, 55, 32, 49, 50, 52, 53, 10, 100, 105, 103, 105, 116, 32, 56, 32, 49, 50, 53, 10, 100, 105, 103, 105, 116, 32, 57, 32, 50, 52, 10, 115, 105, 103, 110, 32, 99, 97, 112, 32, 54, 10, 115, 105, 103, 110, 32, 99, 97, 112, 115, 32, 52, 53, 45, 54, 10, 115, 105, 103, 110, 32, 110, 117, 109, 32, 51, 52, 53, 54, 10, 115, 105, 103, 110, 32, 108, 101, 116, 32, 53, 54, 45, 53, 54, 10, 115, 105, 103, 110, 32, 101, 43, 32, 52, 54, 45, 49, 10, 115, 105, 103, 110, 32, 101, 45, 32, 52, 54, 45, 51, 10, 115, 105, 103, 110, 32, 115, 43, 32, 52, 53, 45, 49, 10, 115, 105, 103, 110, 32, 115, 45, 32, 52, 53, 45, 51, 10, 115, 105, 103, 110, 32, 110, 43, 32, 53, 45, 49, 10, 115, 105, 103, 110, 32, 110, 45, 32, 53, 45, 51, 10, 115, 105, 103, 110, 32, 98, 108, 107, 32, 52, 10, 115, 105, 103, 110, 32, 99, 111, 110, 116, 32, 52, 53, 54, 10, 115, 105, 103, 110, 32, 105, 110, 100, 32, 50, 51, 53, 54, 10]⟩ : ByteArray)
theorem r8_Base.calls  (r : ByteArray) (w : World) (h : r8_Base.f  = some r) :
  Calls Tryz.prog 64 #[] w fun e w' => e = .returned (.string r) ∧ Drawn0 w w' := by
 have H := h
 unfold r8_Base.f at H
 clear h
 obtain rfl := oI H
 go_enter Tryz.func64, Tryz.ntmps64
 go_wp2
 go_ret
 exact ⟨sX, dX⟩
def r9_Base.f (k : Nat)  : Option ((List (S50))) := (r8_Base.f).bind fun t288 => ((r8_Parse.f k t288).bind fun bt289 => (some bt289.1))
theorem r9_Base.calls (k : Nat)  (r : List (S50)) (w : World) (h : r9_Base.f k  = some r) :
  Calls Tryz.prog 24 #[] w fun e w' => ∃ v0_ : Value, e = .returned (v0_) ∧ Kd.R k50 50 w' w.heap.size (fun _ => True) v0_ r ∧ Below w.heap.size w w' := by
 have HB := aK (Below.refl w.heap.size w)
 have H : ((r8_Base.f).bind fun t288 => ((r8_Parse.f k t288).bind fun bt289 => (some bt289.1))) = some r := h
 clear h
 obtain ⟨t288, A1, H⟩ := oC H
 try dsimp only at H
 replace H := oB H
 obtain ⟨⟨t289, t290, t291⟩, A20, H⟩ := H
 replace H : (some t289) = some r := H
 have A2 := aK A20
 clear A20
 obtain rfl := oI H
 go_enter Tryz.func24, Tryz.ntmps24
 go_wp2_with (first | ((with_reducible refine gate_callee (f := 64) rfl ?_); refine gO 5 Tryz.func64 #[] ?_; (with_reducible refine (r8_Base.calls  t288 _ A1.out).mono ?_); rintro e w' ⟨rfl, ⟨nd, rfl⟩⟩; refine ⟨_, rfl, ?_⟩) | ((with_reducible refine gate_callee (f := 63) rfl ?_); refine gO 6 Tryz.func63 #[.string t288] ?_; (with_reducible refine (r8_Parse.calls k t288 t289 t290 t291 _ A2.out).mono ?_); rintro e w3 ⟨v292, rfl, ho0, hb⟩; refine ⟨_, rfl, ?_⟩; have HO293 := aK (Kd.R_lower ho0 (bSz bX)); replace HB := aK (bSp bX hb); clear hb; clear ho0))
 go_ret
 exact ⟨_, eX, rX HO293.out, bX⟩
def r12_Is.f (k : Nat) (a0_0 : Int) (a0_1 : Int) (a0_2 : Int) (a1 : Int) : Option (Bool) := if a0_0 = 1 then ((r1_Class.f k a0_1).bind fun t295 => (some (t295 == a1))) else (some false)
def r12_letter.f (k : Nat) (a0_0 : Int) (a0_1 : Int) (a0_2 : Int) : Option (Bool) := (r12_Is.f k a0_0 a0_1 a0_2 1).bind fun t297 => (if t297 = true then (some true) else ((r12_Is.f k a0_0 a0_1 a0_2 2).bind fun t298 => (some t298)))
def r12_Text.l0 : Nat → List (S42) → ByteArray → Int → Option (ByteArray)
 | 0, _, _, _ => none
 | k + 1, x0, x3, x4 => if x4 < (x0.length : Int) then (if 0 ≤ x4 then ((some (([(rd_T42 x0 x4).f1] : List Int) : List Int)).bind fun y300 => (if x3.size + (strOfNums y300).size ≤ 9223372036854775807 then (r12_Text.l0 k x0 (x3 ++ (strOfNums y300)) (wrap64 (x4 + 1))) else (none))) else (none)) else (some x3)
def r12_Text.f (k : Nat) (l0 : List (S42)) : Option (ByteArray) := r12_Text.l0 k l0 (⟨#[]⟩ : ByteArray) 0
def r10_Find.l0 : Nat → List (S50) → Int → ByteArray → Int → Option (Int × Bool)
 | 0, _, _, _, _ => none
 | k + 1, x0, x1, x2, x8 => if x8 < (x0.length : Int) then (if 0 ≤ x8 then (if ((rd_T50 x0 x8).f0) = x1 then (if ((rd_T50 x0 x8).f1).toList = x2.toList then (some (x8, true)) else (r10_Find.l0 k x0 x1 x2 (wrap64 (x8 + 1)))) else (r10_Find.l0 k x0 x1 x2 (wrap64 (x8 + 1)))) else (none)) else (some (0, false))
def r10_Find.f (k : Nat) (l0 : List (S50)) (a1 : Int) (a2 : ByteArray) : Option (Int × Bool) := r10_Find.l0 k l0 a1 a2 0
def r1_Lower.f (k : Nat) (a0 : Int) : Option (Int) := (r1_Class.f k a0).bind fun t305 => (if t305 = 2 then (some ((((a0 - 65) % 256) + 97) % 256)) else (some a0))
end Go.Proofs.YtbpbniemjjhecaaGreat.PChk
