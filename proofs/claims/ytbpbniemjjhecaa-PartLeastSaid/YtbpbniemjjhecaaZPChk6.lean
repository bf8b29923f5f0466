import Derived.Test.YtbpbniemjjhecaaZPChk0
import Derived.Test.YtbpbniemjjhecaaZPChk5
namespace Go.Proofs.Ytbpbniemjjhecaa.PChk
open Go.RowKit Go.Proofs.Ytbpbniemjjhecaa.G Go.Proofs.YtbpbniemjjhecaaW.PrintWords Go.Proofs.YtbpbniemjjhecaaW.PrintLast Go.Proofs.YtbpbniemjjhecaaW.PrintMore
attribute [local go_sem] max2_int min2_int max_two min_two max_three min_three max_four min_four
set_option linter.unusedVariables false
set_option linter.unusedSimpArgs false
set_option maxHeartbeats 8000000
set_option maxRecDepth 100000
mutual
def r8_Parse.l0 : Nat → ByteArray → List (S33) → Int → Int → Int → Option ((List (S33)) × Int × Int)
 | 0, _, _, _, _, _ => none
 | k + 1, x0, x5, x6, x7, x8 => if x8 ≤ (x0.size : Int) then (if x8 < (x0.size : Int) then (if 0 ≤ x8 then (r8_Parse.j1 k x0 x5 x6 x7 x8 ((bt x0 x8) != 10)) else (none)) else (r8_Parse.j1 k x0 x5 x6 x7 x8 false)) else (some (x5, 0, 0))
def r8_Parse.j1 : Nat → ByteArray → List (S33) → Int → Int → Int → Bool → Option ((List (S33)) × Int × Int)
 | 0, _, _, _, _, _, _ => none
 | k + 1, x0, x5, x6, x7, x8, x30 => if x30 = true then (r8_Parse.l0 k x0 x5 x6 x7 (wrap64 (x8 + 1))) else (if 0 ≤ x7 then (if x7 ≤ x8 then (if x8 ≤ (x0.size : Int) then (if (x0.extract (x7 : Int).toNat (x8 : Int).toNat).toList = ([] : List UInt8) then (r8_Parse.j2 k x0 x5 x6 x8 (x0.extract (x7 : Int).toNat (x8 : Int).toNat) false) else (if 0 < ((x0.extract (x7 : Int).toNat (x8 : Int).toNat).size : Int) then (r8_Parse.j2 k x0 x5 x6 x8 (x0.extract (x7 : Int).toNat (x8 : Int).toNat) ((bt (x0.extract (x7 : Int).toNat (x8 : Int).toNat) 0) != 35)) else (none))) else (none)) else (none)) else (none))
def r8_Parse.j2 : Nat → ByteArray → List (S33) → Int → Int → ByteArray → Bool → Option ((List (S33)) × Int × Int)
 | 0, _, _, _, _, _, _ => none
 | k + 1, x0, x5, x6, x8, x9, x41 => if x41 = true then ((r8_rule.f k x9 x6).bind fun bt168 => (if bt168.2.2.2.2.2 = true then (if (x5.length : Int) = 400 then (some (([] : List (S33)), x6, 4)) else (if x5.length < 2513169434916 then (r8_Parse.l0 k x0 (x5 ++ [(⟨bt168.1, bt168.2.1, bt168.2.2.1, bt168.2.2.2.1, bt168.2.2.2.2.1⟩ : S33)]) (wrap64 (x6 + 1)) (wrap64 (x8 + 1)) (wrap64 (x8 + 1))) else (none))) else (some (([] : List (S33)), x6, 6)))) else (r8_Parse.l0 k x0 x5 (wrap64 (x6 + 1)) (wrap64 (x8 + 1)) (wrap64 (x8 + 1)))
end
def r8_Parse.f (k : Nat) (a0 : ByteArray) : Option ((List (S33)) × Int × Int) := if (a0.size : Int) > 65536 then (some (([] : List (S33)), 0, 4)) else (r8_Parse.l0 k a0 ([] : List (S33)) 1 0 0)
theorem r8_Parse.mono_l : ∀ k, (∀ y0 y1 y2 y3 y4, LeO (r8_Parse.l0 k y0 y1 y2 y3 y4) (r8_Parse.l0 (k + 1) y0 y1 y2 y3 y4)) ∧ (∀ y0 y1 y2 y3 y4 y5, LeO (r8_Parse.j1 k y0 y1 y2 y3 y4 y5) (r8_Parse.j1 (k + 1) y0 y1 y2 y3 y4 y5)) ∧ (∀ y0 y1 y2 y3 y4 y5, LeO (r8_Parse.j2 k y0 y1 y2 y3 y4 y5) (r8_Parse.j2 (k + 1) y0 y1 y2 y3 y4 y5))
 | 0 => ⟨fun _ _ _ _ _ r h => by simp [r8_Parse.l0] at h, fun _ _ _ _ _ _ r h => by simp [r8_Parse.j1] at h, fun _ _ _ _ _ _ r h => by simp [r8_Parse.j2] at h⟩
 | k + 1 => by
  obtain ⟨ih0, ih1, ih2⟩ := r8_Parse.mono_l k
  refine ⟨?_, ?_, ?_⟩
  ·
   intro y0 y1 y2 y3 y4
   unfold r8_Parse.l0
   repeat' first
   | (with_reducible first | exact ih0 _ _ _ _ _ | exact ih1 _ _ _ _ _ _ | exact ih2 _ _ _ _ _ _ | exact r8_rule.mono _ _ _ | exact LeO.refl _ | exact LeO.none _ | refine LeO.ite ?_ ?_ | refine LeO.bind ?_ (fun _ => ?_))
   | exact ih0 _ _ _ _ _
   | exact ih1 _ _ _ _ _ _
   | exact ih2 _ _ _ _ _ _
   | exact r8_rule.mono _ _ _
   | exact LeO.none _
   | refine LeO.ite ?_ ?_
   | refine LeO.bind ?_ (fun _ => ?_)
  ·
   intro y0 y1 y2 y3 y4 y5
   unfold r8_Parse.j1
   repeat' first
   | (with_reducible first | exact ih0 _ _ _ _ _ | exact ih1 _ _ _ _ _ _ | exact ih2 _ _ _ _ _ _ | exact r8_rule.mono _ _ _ | exact LeO.refl _ | exact LeO.none _ | refine LeO.ite ?_ ?_ | refine LeO.bind ?_ (fun _ => ?_))
   | exact ih0 _ _ _ _ _
   | exact ih1 _ _ _ _ _ _
   | exact ih2 _ _ _ _ _ _
   | exact r8_rule.mono _ _ _
   | exact LeO.none _
   | refine LeO.ite ?_ ?_
   | refine LeO.bind ?_ (fun _ => ?_)
  ·
   intro y0 y1 y2 y3 y4 y5
   unfold r8_Parse.j2
   repeat' first
   | (with_reducible first | exact ih0 _ _ _ _ _ | exact ih1 _ _ _ _ _ _ | exact ih2 _ _ _ _ _ _ | exact r8_rule.mono _ _ _ | exact LeO.refl _ | exact LeO.none _ | refine LeO.ite ?_ ?_ | refine LeO.bind ?_ (fun _ => ?_))
   | exact ih0 _ _ _ _ _
   | exact ih1 _ _ _ _ _ _
   | exact ih2 _ _ _ _ _ _
   | exact r8_rule.mono _ _ _
   | exact LeO.none _
   | refine LeO.ite ?_ ?_
   | refine LeO.bind ?_ (fun _ => ?_)
theorem r8_Parse.calls (k : Nat) (a0 : ByteArray) (r1 : List (S33)) (r2 : Int) (r3 : Int) (w : World) (h : r8_Parse.f k a0 = some (r1, r2, r3)) :
  Calls Try.prog 58 #[.string a0] w fun e w' => ∃ v0_ : Value, e = .returned (.tuple #[v0_, .int .i64 r2, .int .i64 r3]) ∧ Kd.R k33 33 w' w.heap.size (fun _ => True) v0_ r1 ∧ Below w.heap.size w w' := by
 have hu33 := Try.underlying33
 have HB := aK (Below.refl w.heap.size w)
 have H : (if (a0.size : Int) > 65536 then (some (([] : List (S33)), 0, 4)) else (r8_Parse.l0 k a0 ([] : List (S33)) 1 0 0)) = some (r1, r2, r3) := h
 clear h
 by_cases c2 : (a0.size : Int) > 65536
 rotate_left
 ·
  rw [if_neg c2] at H
  have c2b0 : decide (65536 < (a0.size : Int)) = false := decide_eq_false c2
  have c2b1 : decide (65536 < a0.size) = false := decide_eq_false (by omega)
  clear c2
  have H' := aK H
  clear H
  go_enter Try.func58, Try.ntmps58
  go_wp2
  go_loopg [5, 6, 7, 8] k (fun kq v5 v6 v7 v8 w' => ∃ (x5_1 : List (S33)) (x6_1 : Int) (x7_1 : Int) (x8_1 : Int), v6 = .int .i64 x6_1 ∧ v7 = .int .i64 x7_1 ∧ v8 = .int .i64 x8_1 ∧ Aside0 (r8_Parse.l0 kq a0 x5_1 x6_1 x7_1 x8_1 = some (r1, r2, r3)) ∧ Aside0 (kq ≤ k) ∧ Aside0 (Kd.R k33 33 w' w.heap.size (fun _ => True) v5 x5_1) ∧ Aside0 (Below w.heap.size w w'))
  case atStart => exact ⟨(([] : List (S33))), (1), (0), (0), (by first | rfl | (simp; done) | (simp [*]; done)), (by first | rfl | (simp; done) | (simp [*]; done)), (by first | rfl | (simp; done) | (simp [*]; done)), H', ⟨Nat.le_refl _⟩, ⟨by first | exact Kd.R_nil _ _ _ _ _ | exact Kd.N_nil _ _ _ _ _ | exact Kd.V_nil _ _ _ _ _ | exact Kd.Q_nil _ _ _ _ _ | exact Kd.S_nil _ _ _ _ _⟩, ⟨by repeat (first | (with_reducible first | exact HB.out | apply bAl | apply pbD | apply bD1) | exact HB.out)⟩⟩
  case round =>
   clear H'
   try clear c2
   try clear c2b0
   try clear c2b1
   try clear p2
   obtain ⟨x5_1, x6_1, x7_1, x8_1, rfl, rfl, rfl, HA, HK1, HO_5, HB⟩ := hrel
   cases gk with
   | zero => exact absurd HA.out (by simp [r8_Parse.l0])
   | succ k1 =>
    have H := HA.out
    clear HA
    simp only [r8_Parse.l0] at H
    by_cases c3 : x8_1 ≤ (a0.size : Int)
    rotate_left
    ·
     rw [if_neg c3] at H
     have c3b0 : decide (x8_1 ≤ (a0.size : Int)) = false := decide_eq_false c3
     clear c3
     simp only [Option.some.injEq, Prod.mk.injEq] at H
     obtain ⟨rfl, rfl, rfl⟩ := H
     go_wp2
     go_ret3
     exact ⟨_, by first | rfl | (simp [eWn, eWs] <;> rfl) | (simp [*, eWn, eWs] <;> rfl), by (with_reducible repeat (first | apply Kd.R_alloc | apply Kd.R_drewN | apply Kd.R_drew)); exact HO_5.out, by repeat (first | (with_reducible first | exact HB.out | apply bAl | apply pbD | apply bD1) | exact HB.out)⟩
    rw [if_pos c3] at H
    have c3b0 : decide (x8_1 ≤ (a0.size : Int)) = true := decide_eq_true c3
    clear c3
    have HC4 := aK H
    clear H
    go_upto_region 8 with (fail)
    go_cut [30] (fun v30 wc => ∃ (kq : Nat) (x30_3 : Bool), v30 = .bool x30_3 ∧ Aside0 (r8_Parse.j1 kq a0 x5_1 x6_1 x7_1 x8_1 x30_3 = some (r1, r2, r3)) ∧ Aside0 (kq ≤ k1) ∧ Aside0 (Kd.R k33 33 wc w.heap.size (fun _ => True) u5 x5_1) ∧ Aside0 (Below w.heap.size w wc))
    case first =>
     have H := HC4.out
     clear HC4
     by_cases c5 : x8_1 < (a0.size : Int)
     rotate_left
     ·
      rw [if_neg c5] at H
      have c5b0 : decide (x8_1 < (a0.size : Int)) = false := decide_eq_false c5
      clear c5
      (first | rw [c5b0] | (simp only [i64_w, i32_w]; rw [c5b0]) | skip)
      have H' := aK H
      clear H
      go_wp2
      go_meet
      case rel => exact ⟨_, (false), (by first | rfl | (simp; done) | (simp [*]; done)), H', ⟨by have := HK1.out; first | omega | exact Nat.le_refl _⟩, ⟨by (with_reducible repeat (first | apply Kd.R_alloc | apply Kd.R_drewN | apply Kd.R_drew)); exact HO_5.out⟩, ⟨by repeat (first | (with_reducible first | exact HB.out | apply bAl | apply pbD | apply bD1) | exact HB.out)⟩⟩
     rw [if_pos c5] at H
     have c5b0 : decide (x8_1 < (a0.size : Int)) = true := decide_eq_true c5
     clear c5
     (first | rw [c5b0] | (simp only [i64_w, i32_w]; rw [c5b0]) | skip)
     by_cases c6 : 0 ≤ x8_1
     rotate_left
     ·
      rw [if_neg c6] at H
      exact absurd H (by simp)
     rw [if_pos c6] at H
     have c6b0 : decide (0 ≤ x8_1) = true := decide_eq_true c6
     clear c6
     have H' := aK H
     clear H
     have p7 : 0 ≤ (x8_1 : Int) := odT (by first | (with_reducible assumption) | assumption)
     have q7 : x8_1 < (a0.size : Int) := odT (by first | (with_reducible assumption) | assumption)
     have hx7 := bt_at a0 x8_1
     replace p7 := eq_true p7
     replace q7 := eq_true q7
     go_wp2
     go_meet
     case rel => exact ⟨_, (((bt a0 x8_1) != 10)), (by first | rfl | (simp; done) | (simp [*]; done)), H', ⟨by have := HK1.out; first | omega | exact Nat.le_refl _⟩, ⟨by (with_reducible repeat (first | apply Kd.R_alloc | apply Kd.R_drewN | apply Kd.R_drew)); exact HO_5.out⟩, ⟨by repeat (first | (with_reducible first | exact HB.out | apply bAl | apply pbD | apply bD1) | exact HB.out)⟩⟩
    case rest =>
     clear HC4
     try clear c2
     try clear c2b0
     try clear c2b1
     try clear p2
     try clear c3
     try clear c3b0
     try clear c5
     try clear c5b0
     try clear c6
     try clear c6b0
     try clear p7
     try clear q7
     try clear hx7
     try clear p2
     try clear p7
     try clear q7
     obtain ⟨kq, x30_3, rfl, HA, HJ3, HO_5, HB⟩ := hcut
     cases kq with
     | zero => exact absurd HA.out (by simp [r8_Parse.j1])
     | succ kj3 =>
      have H := HA.out
      clear HA
      simp only [r8_Parse.j1] at H
      by_cases c8 : x30_3 = true
      rotate_left
      ·
       replace c8 := Bool.eq_false_iff.mpr c8
       subst c8
       have H1 : (if 0 ≤ x7_1 then (if x7_1 ≤ x8_1 then (if x8_1 ≤ (a0.size : Int) then (if (a0.extract (x7_1 : Int).toNat (x8_1 : Int).toNat).toList = ([] : List UInt8) then (r8_Parse.j2 kj3 a0 x5_1 x6_1 x8_1 (a0.extract (x7_1 : Int).toNat (x8_1 : Int).toNat) false) else (if 0 < ((a0.extract (x7_1 : Int).toNat (x8_1 : Int).toNat).size : Int) then (r8_Parse.j2 kj3 a0 x5_1 x6_1 x8_1 (a0.extract (x7_1 : Int).toNat (x8_1 : Int).toNat) ((bt (a0.extract (x7_1 : Int).toNat (x8_1 : Int).toNat) 0) != 35)) else (none))) else (none)) else (none)) else (none)) = some (r1, r2, r3) := by rw [if_neg (show ¬ (false = true) by decide)] at H; exact H
       clear H
       have H := H1
       clear H1
       by_cases c9 : 0 ≤ x7_1
       rotate_left
       ·
        rw [if_neg c9] at H
        exact absurd H (by simp)
       rw [if_pos c9] at H
       have c9b0 := eq_true c9
       have c9b1 : decide (0 ≤ x7_1) = true := decide_eq_true c9
       clear c9
       by_cases c10 : x7_1 ≤ x8_1
       rotate_left
       ·
        rw [if_neg c10] at H
        exact absurd H (by simp)
       rw [if_pos c10] at H
       have c10b0 := eq_true c10
       have c10b1 : decide (x7_1 ≤ x8_1) = true := decide_eq_true c10
       clear c10
       by_cases c11 : x8_1 ≤ (a0.size : Int)
       rotate_left
       ·
        rw [if_neg c11] at H
        exact absurd H (by simp)
       rw [if_pos c11] at H
       have c11b0 := eq_true c11
       have c11b1 : decide (x8_1 ≤ (a0.size : Int)) = true := decide_eq_true c11
       clear c11
       have HC12 := aK H
       clear H
       go_upto_region 10 with (fail)
       go_cut [41] (fun v41 wc => ∃ (kq : Nat) (x41_11 : Bool), v41 = .bool x41_11 ∧ Aside0 (r8_Parse.j2 kq a0 x5_1 x6_1 x8_1 (a0.extract (x7_1 : Int).toNat (x8_1 : Int).toNat) x41_11 = some (r1, r2, r3)) ∧ Aside0 (kq ≤ kj3) ∧ Aside0 (Kd.R k33 33 wc w.heap.size (fun _ => True) u5 x5_1) ∧ Aside0 (Below w.heap.size w wc))
       case first =>
        have H := HC12.out
        clear HC12
        by_cases c13 : (a0.extract (x7_1 : Int).toNat (x8_1 : Int).toNat).toList = ([] : List UInt8)
        rotate_left
        ·
         rw [if_neg c13] at H
         have c13b0 : ((a0.extract (x7_1 : Int).toNat (x8_1 : Int).toNat).toList == ([] : List UInt8)) = false := beq_eq_false_iff_ne.mpr c13
         have c13b1 : ((a0.extract (x7_1 : Int).toNat (x8_1 : Int).toNat).toList != ([] : List UInt8)) = true := bne_iff_ne.mpr c13
         (first | rw [c13b0] | (simp only [i64_w, i32_w]; rw [c13b0]) | skip)
         by_cases c14 : 0 < ((a0.extract (x7_1 : Int).toNat (x8_1 : Int).toNat).size : Int)
         rotate_left
         ·
          rw [if_neg c14] at H
          exact absurd H (by simp)
         rw [if_pos c14] at H
         have c14b0 : decide (0 < ((a0.extract (x7_1 : Int).toNat (x8_1 : Int).toNat).size : Int)) = true := decide_eq_true c14
         have c14b1 : decide (0 < (a0.extract (x7_1 : Int).toNat (x8_1 : Int).toNat).size) = true := decide_eq_true (by omega)
         clear c14
         have H' := aK H
         clear H
         have p15 : 0 ≤ (0 : Int) := (by omega)
         have q15 : 0 < (a0.extract (x7_1 : Int).toNat (x8_1 : Int).toNat).size := (by have : (0 : Int) < ((a0.extract (x7_1 : Int).toNat (x8_1 : Int).toNat).size : Int) := odT (by first | (with_reducible assumption) | assumption); omega)
         have hx15 : ∀ h : 0 < (a0.extract (x7_1 : Int).toNat (x8_1 : Int).toNat).size, (((a0.extract (x7_1 : Int).toNat (x8_1 : Int).toNat)[0]'h).toNat : Int) = bt (a0.extract (x7_1 : Int).toNat (x8_1 : Int).toNat) 0 := bt_at (a0.extract (x7_1 : Int).toNat (x8_1 : Int).toNat) 0
         clear p15
         have qi15 : (0 < ((a0.extract (x7_1 : Int).toNat (x8_1 : Int).toNat).size : Int)) = True := eq_true (odT (by first | (with_reducible assumption) | assumption))
         have q15j : (0 < x8_1.toNat - x7_1.toNat) = True := eq_true (by have h_ := q15; rw [ByteArray.size_extract] at h_; omega)
         replace q15 := eq_true q15
         go_wp2
         go_meet
         case rel => exact ⟨_, (((bt (a0.extract (x7_1 : Int).toNat (x8_1 : Int).toNat) 0) != 35)), (by first | rfl | (simp; done) | (simp [*]; done)), H', ⟨by have := HK1.out; have := HJ3.out; first | omega | exact Nat.le_refl _⟩, ⟨by (with_reducible repeat (first | apply Kd.R_alloc | apply Kd.R_drewN | apply Kd.R_drew)); exact HO_5.out⟩, ⟨by repeat (first | (with_reducible first | exact HB.out | apply bAl | apply pbD | apply bD1) | exact HB.out)⟩⟩
        rw [if_pos c13] at H
        have c13b0 : ((a0.extract (x7_1 : Int).toNat (x8_1 : Int).toNat).toList == ([] : List UInt8)) = true := beq_iff_eq.mpr c13
        have c13b1 : ((a0.extract (x7_1 : Int).toNat (x8_1 : Int).toNat).toList != ([] : List UInt8)) = false := bne_eq_false_iff_eq.mpr c13
        clear c13
        (first | rw [c13b0] | (simp only [i64_w, i32_w]; rw [c13b0]) | skip)
        have H' := aK H
        clear H
        go_wp2
        go_meet
        case rel => exact ⟨_, (false), (by first | rfl | (simp; done) | (simp [*]; done)), H', ⟨by have := HK1.out; have := HJ3.out; first | omega | exact Nat.le_refl _⟩, ⟨by (with_reducible repeat (first | apply Kd.R_alloc | apply Kd.R_drewN | apply Kd.R_drew)); exact HO_5.out⟩, ⟨by repeat (first | (with_reducible first | exact HB.out | apply bAl | apply pbD | apply bD1) | exact HB.out)⟩⟩
       case rest =>
        clear HC12
        try clear c1
        try clear p1
        try clear q1
        try clear hx1
        try clear qi1
        try clear c2
        try clear c2b0
        try clear c2b1
        try clear p2
        try clear c3
        try clear c3b0
        try clear c5
        try clear c5b0
        try clear c6
        try clear c6b0
        try clear p6
        try clear p7
        try clear q7
        try clear hx7
        try clear c8
        try clear c9
        try clear c9b0
        try clear c9b1
        try clear c10
        try clear c10b0
        try clear c10b1
        try clear c11
        try clear c11b0
        try clear c11b1
        try clear c13
        try clear c13b0
        try clear c13b1
        try clear c14
        try clear c14b0
        try clear c14b1
        try clear p15
        try clear q15
        try clear hx15
        try clear qi15
        try clear p15
        try clear p2
        try clear p7
        try clear q15
        try clear q7
        obtain ⟨kq, x41_11, rfl, HA, HJ11, HO_5, HB⟩ := hcut
        cases kq with
        | zero => exact absurd HA.out (by simp [r8_Parse.j2])
        | succ kj11 =>
         have H := HA.out
         clear HA
         simp only [r8_Parse.j2] at H
         by_cases c16 : x41_11 = true
         rotate_left
         ·
          replace c16 := Bool.eq_false_iff.mpr c16
          subst c16
          have H1 : (r8_Parse.l0 kj11 a0 x5_1 (wrap64 (x6_1 + 1)) (wrap64 (x8_1 + 1)) (wrap64 (x8_1 + 1))) = some (r1, r2, r3) := by rw [if_neg (show ¬ (false = true) by decide)] at H; exact H
          clear H
          have H := H1
          clear H1
          have H' := aK H
          clear H
          go_wp2
          go_roundg kj11
          case measure => have := HK1.out; have := HJ3.out; have := HJ11.out; omega
          case rel => exact ⟨(x5_1), (wrap64 (x6_1 + 1)), (wrap64 (x8_1 + 1)), (wrap64 (x8_1 + 1)), (by first | rfl | (simp; done) | (simp [*]; done)), (by first | rfl | (simp; done) | (simp [*]; done)), (by first | rfl | (simp; done) | (simp [*]; done)), H', ⟨by have := HK1.out; have := HJ3.out; have := HJ11.out; omega⟩, ⟨by (with_reducible repeat (first | apply Kd.R_alloc | apply Kd.R_drewN | apply Kd.R_drew)); exact HO_5.out⟩, ⟨by repeat (first | (with_reducible first | exact HB.out | apply bAl | apply pbD | apply bD1) | exact HB.out)⟩⟩
         subst c16
         have H1 : ((r8_rule.f kj11 (a0.extract (x7_1 : Int).toNat (x8_1 : Int).toNat) x6_1).bind fun bt168 => (if bt168.2.2.2.2.2 = true then (if (x5_1.length : Int) = 400 then (some (([] : List (S33)), x6_1, 4)) else (if x5_1.length < 2513169434916 then (r8_Parse.l0 kj11 a0 (x5_1 ++ [(⟨bt168.1, bt168.2.1, bt168.2.2.1, bt168.2.2.2.1, bt168.2.2.2.2.1⟩ : S33)]) (wrap64 (x6_1 + 1)) (wrap64 (x8_1 + 1)) (wrap64 (x8_1 + 1))) else (none))) else (some (([] : List (S33)), x6_1, 6)))) = some (r1, r2, r3) := by rw [if_pos rfl] at H; exact H
         clear H
         have H := H1
         clear H1
         replace H := oB H
         obtain ⟨⟨t168, t169, t170, t171, t172, t173⟩, A170, H⟩ := H
         try dsimp only at H
         have A17 := aK A170
         clear A170
         by_cases c18 : t173 = true
         rotate_left
         ·
          replace c18 := Bool.eq_false_iff.mpr c18
          subst c18
          have H1 : (some (([] : List (S33)), x6_1, 6)) = some (r1, r2, r3) := by rw [if_neg (show ¬ (false = true) by decide)] at H; exact H
          clear H
          have H := H1
          clear H1
          simp only [Option.some.injEq, Prod.mk.injEq] at H
          obtain ⟨rfl, rfl, rfl⟩ := H
          go_wp2_with (first | ((with_reducible refine gate_callee (f := 78) rfl ?_); refine goesL_ (some 45) rfl rfl Try.func78 (by kernel_rfl) rfl #[.string (a0.extract (x7_1 : Int).toNat (x8_1 : Int).toNat), .int .i64 x6_1] rfl (by (try simp only [qM0, qM1, qM2]); first | done | rfl | (simp only [qD0, qD1]; rfl)) ?_; (with_reducible refine (r8_rule.calls kj11 (a0.extract (x7_1 : Int).toNat (x8_1 : Int).toNat) x6_1 t168 t169 t170 t171 t172 false _ A17.out).mono ?_); rintro e w30 ⟨rfl, hb⟩; refine ⟨_, rfl, ?_⟩; have n0_ := aK (Kd.R_below (by (with_reducible repeat (first | apply Kd.R_alloc | apply Kd.R_drewN | apply Kd.R_drew)); exact HO_5.out) hb); have n1_ := aK (bSp (by repeat (first | (with_reducible first | exact HB.out | apply bAl | apply pbD | apply bD1) | exact HB.out)) hb); clear HO_5; clear HB; have HO_5 := n0_; have HB := n1_; clear n0_ n1_; (try clear hb); (try clear hb2); (try clear hk); (try clear hi)) | ((with_reducible refine gate_dst (N := 10) rfl ?_); refine box_event ?hg (N := 10) ?hd (cs := #[.int .i64 0, .string (⟨#[]⟩ : ByteArray), .string (⟨#[]⟩ : ByteArray), .int .i64 0, .int .i64 0]) (t := 33) ?hr ?_; (case hd => rfl); (case hg => rfl); (case hr => first | (go_simp; done) | (go_simp; rfl)); intro gb174 hg w31 hbox hb; have n0_ := aK (Kd.R_below (Kd.R_elderB (by (with_reducible repeat (first | apply Kd.R_alloc | apply Kd.R_drewN | apply Kd.R_drew)); exact HO_5.out) gb174 (Nat.le_of_eq hg.symm)) hb); have n1_ := aK (bSp (by repeat (first | (with_reducible first | exact HB.out | apply bAl | apply pbD | apply bD1) | exact HB.out)) hb); have n2_ := aK (hbox); have n3_ := aK ((by rw [hg]; exact (bSz (by repeat (first | (with_reducible first | exact HB.out | apply bAl | apply pbD | apply bD1) | exact HB.out))) : w.heap.size ≤ gb174)); have n4_ := aK ((by rw [hg]; exact (bSz (by repeat (first | (with_reducible first | exact HB.out | apply bAl | apply pbD | apply bD1) | exact HB.out))) : w.heap.size ≤ gb174)); clear HO_5; clear HB; have HO_5 := n0_; have HB := n1_; have BK174 := n2_; have GW174 := n3_; have GE174 := n4_; clear n0_ n1_ n2_ n3_ n4_; clear hb hbox hg; have hcz32_0 : w31.cell? ⟨gb174, 0, none⟩ = some (.int .i64 0) := (kCe BK174.out 0).trans rfl; have hcz32_1 : w31.cell? ⟨gb174, 1, none⟩ = some (.string (⟨#[]⟩ : ByteArray)) := (kCe BK174.out 1).trans rfl; have hcz32_2 : w31.cell? ⟨gb174, 2, none⟩ = some (.string (⟨#[]⟩ : ByteArray)) := (kCe BK174.out 2).trans rfl; have hcz32_3 : w31.cell? ⟨gb174, 3, none⟩ = some (.int .i64 0) := (kCe BK174.out 3).trans rfl; have hcz32_4 : w31.cell? ⟨gb174, 4, none⟩ = some (.int .i64 0) := (kCe BK174.out 4).trans rfl; have hfz32_0 := bFz BK174.out 0; have hfz32_1 := bFz BK174.out 1; have hfz32_2 := bFz BK174.out 2; have hfz32_3 := bFz BK174.out 3; have hfz32_4 := bFz BK174.out 4))
          go_ret3
          exact ⟨_, by first | rfl | (simp [eWn, eWs] <;> rfl) | (simp [*, eWn, eWs] <;> rfl), by first | exact Kd.R_nil _ _ _ _ _ | exact Kd.N_nil _ _ _ _ _ | exact Kd.V_nil _ _ _ _ _ | exact Kd.Q_nil _ _ _ _ _ | exact Kd.S_nil _ _ _ _ _, by repeat (first | (with_reducible first | exact HB.out | apply bAl | apply pbD | apply bD1 | refine bSt ?_ GE174.out) | exact HB.out)⟩
         subst c18
         have H1 : (if (x5_1.length : Int) = 400 then (some (([] : List (S33)), x6_1, 4)) else (if x5_1.length < 2513169434916 then (r8_Parse.l0 kj11 a0 (x5_1 ++ [(⟨t168, t169, t170, t171, t172⟩ : S33)]) (wrap64 (x6_1 + 1)) (wrap64 (x8_1 + 1)) (wrap64 (x8_1 + 1))) else (none))) = some (r1, r2, r3) := by rw [if_pos rfl] at H; exact H
         clear H
         have H := H1
         clear H1
         by_cases c19 : (x5_1.length : Int) = 400
         rotate_left
         ·
          rw [if_neg c19] at H
          have c19b0 : ((x5_1.length : Int) == 400) = false := beq_eq_false_iff_ne.mpr c19
          have c19b1 : ((x5_1.length : Int) != 400) = true := bne_iff_ne.mpr c19
          by_cases c24 : x5_1.length < 2513169434916
          rotate_left
          ·
           rw [if_neg c24] at H
           exact absurd H (by simp)
          rw [if_pos c24] at H
          have LMc24 := aK c24
          clear c24
          obtain ⟨y175, hy175⟩ : ∃ y_ : List (S33), y_ = (x5_1 ++ [(⟨t168, t169, t170, t171, t172⟩ : S33)]) := ⟨_, rfl⟩
          replace H : (r8_Parse.l0 kj11 a0 y175 (wrap64 (x6_1 + 1)) (wrap64 (x8_1 + 1)) (wrap64 (x8_1 + 1))) = some (r1, r2, r3) := by first | (rw [hy175]; with_reducible exact H) | (have H2_ := (Option.bind_some _ _).symm.trans H; rw [hy175]; with_reducible exact H2_) | (have H2_ := (Option.bind_some _ _).symm.trans H; with_reducible exact H2_) | with_reducible exact H | (rw [hy175]; exact H) | exact H
          have Ny175 := aK hy175
          clear hy175
          have H' := aK H
          clear H
          go_wp2_with (first | ((with_reducible refine gate_callee (f := 78) rfl ?_); refine goesL_ (some 45) rfl rfl Try.func78 (by kernel_rfl) rfl #[.string (a0.extract (x7_1 : Int).toNat (x8_1 : Int).toNat), .int .i64 x6_1] rfl (by (try simp only [qM0, qM1, qM2]); first | done | rfl | (simp only [qD0, qD1]; rfl)) ?_; (with_reducible refine (r8_rule.calls kj11 (a0.extract (x7_1 : Int).toNat (x8_1 : Int).toNat) x6_1 t168 t169 t170 t171 t172 true _ A17.out).mono ?_); rintro e w25 ⟨rfl, hb⟩; refine ⟨_, rfl, ?_⟩; have n0_ := aK (Kd.R_below (by (with_reducible repeat (first | apply Kd.R_alloc | apply Kd.R_drewN | apply Kd.R_drew)); exact HO_5.out) hb); have n1_ := aK (bSp (by repeat (first | (with_reducible first | exact HB.out | apply bAl | apply pbD | apply bD1) | exact HB.out)) hb); clear HO_5; clear HB; have HO_5 := n0_; have HB := n1_; clear n0_ n1_; (try clear hb); (try clear hb2); (try clear hk); (try clear hi)) | ((with_reducible refine gate_dst (N := 10) rfl ?_); refine box_event ?hg (N := 10) ?hd (cs := #[.int .i64 0, .string (⟨#[]⟩ : ByteArray), .string (⟨#[]⟩ : ByteArray), .int .i64 0, .int .i64 0]) (t := 33) ?hr ?_; (case hd => rfl); (case hg => rfl); (case hr => first | (go_simp; done) | (go_simp; rfl)); intro gb174 hg w26 hbox hb; have n0_ := aK (Kd.R_below (Kd.R_elderB (by (with_reducible repeat (first | apply Kd.R_alloc | apply Kd.R_drewN | apply Kd.R_drew)); exact HO_5.out) gb174 (Nat.le_of_eq hg.symm)) hb); have n1_ := aK (bSp (by repeat (first | (with_reducible first | exact HB.out | apply bAl | apply pbD | apply bD1) | exact HB.out)) hb); have n2_ := aK (hbox); have n3_ := aK ((by rw [hg]; exact (bSz (by repeat (first | (with_reducible first | exact HB.out | apply bAl | apply pbD | apply bD1) | exact HB.out))) : w.heap.size ≤ gb174)); have n4_ := aK ((by rw [hg]; exact (bSz (by repeat (first | (with_reducible first | exact HB.out | apply bAl | apply pbD | apply bD1) | exact HB.out))) : w.heap.size ≤ gb174)); clear HO_5; clear HB; have HO_5 := n0_; have HB := n1_; have BK174 := n2_; have GW174 := n3_; have GE174 := n4_; clear n0_ n1_ n2_ n3_ n4_; clear hb hbox hg; have hcz27_0 : w26.cell? ⟨gb174, 0, none⟩ = some (.int .i64 0) := (kCe BK174.out 0).trans rfl; have hcz27_1 : w26.cell? ⟨gb174, 1, none⟩ = some (.string (⟨#[]⟩ : ByteArray)) := (kCe BK174.out 1).trans rfl; have hcz27_2 : w26.cell? ⟨gb174, 2, none⟩ = some (.string (⟨#[]⟩ : ByteArray)) := (kCe BK174.out 2).trans rfl; have hcz27_3 : w26.cell? ⟨gb174, 3, none⟩ = some (.int .i64 0) := (kCe BK174.out 3).trans rfl; have hcz27_4 : w26.cell? ⟨gb174, 4, none⟩ = some (.int .i64 0) := (kCe BK174.out 4).trans rfl; have hfz27_0 := bFz BK174.out 0; have hfz27_1 := bFz BK174.out 1; have hfz27_2 := bFz BK174.out 2; have hfz27_3 := bFz BK174.out 3; have hfz27_4 := bFz BK174.out 4; obtain ⟨Ao28, co28, eo28⟩ := Kd.R_slice HO_5.out; subst eo28) | ((with_reducible refine gate_builtin (b := .append) (xs := #[.tmp 55, .tmp 57]) rfl ?_); at_builtin; refine Kd.R_append k33 (w0 := w) w.heap.size rfl (.tmp 55) (.tmp 57) 22 33 (.agg #[(.int .i64 0), (.string ⟨#[]⟩), (.string ⟨#[]⟩), (.int .i64 0), (.int .i64 0)]) 56 rfl Try.underlying22 info33 rfl (by decide) (by omega) (.slice Ao28 x5_1.length co28) x5_1 (⟨t168, t169, t170, t171, t172⟩ : S33) [.int .i64 t168, .string t169, .string t170, .int .i64 t171, .int .i64 t172] (fun k_ => k_ ≠ gb174) (fun _ => False) rfl (by first | (go_simp; done) | (go_simp; rfl)) ?aP (fun _ hk => hk.elim) ?aF ?aO ?aB ?aS ?aL ?_; (case aP => exact k33_mkM _ _ _ (⟨t168, t169, t170, t171, t172⟩ : S33)); (case aB => exact (by repeat (first | (with_reducible first | exact HB.out | apply bAl | apply pbD | apply bD1 | refine bSt ?_ GE174.out) | exact HB.out))); (case aF => exact (fun k_ hk => Kd.freshB (g := gb174) (o := .cells #[.int .i64 t168, .string t169, .string t170, .int .i64 t171, .int .i64 t172] 33 (0, 0)) (by (with_reducible repeat (first | refine kDN ?_ _ | refine kDr ?_ | refine kAl ?_ _)); refine blk_put (cs := #[.int .i64 t168, .string t169, .string t170, .int .i64 t171, .int .i64 0]) ?_ 4 _ rfl; (with_reducible repeat (first | refine kDN ?_ _ | refine kDr ?_ | refine kAl ?_ _)); refine blk_put (cs := #[.int .i64 t168, .string t169, .string t170, .int .i64 0, .int .i64 0]) ?_ 3 _ rfl; (with_reducible repeat (first | refine kDN ?_ _ | refine kDr ?_ | refine kAl ?_ _)); refine blk_put (cs := #[.int .i64 t168, .string t169, .string (⟨#[]⟩ : ByteArray), .int .i64 0, .int .i64 0]) ?_ 2 _ rfl; (with_reducible repeat (first | refine kDN ?_ _ | refine kDr ?_ | refine kAl ?_ _)); refine blk_put (cs := #[.int .i64 t168, .string (⟨#[]⟩ : ByteArray), .string (⟨#[]⟩ : ByteArray), .int .i64 0, .int .i64 0]) ?_ 1 _ rfl; (with_reducible repeat (first | refine kDN ?_ _ | refine kDr ?_ | refine kAl ?_ _)); refine blk_put (cs := #[.int .i64 0, .string (⟨#[]⟩ : ByteArray), .string (⟨#[]⟩ : ByteArray), .int .i64 0, .int .i64 0]) ?_ 0 _ rfl; (with_reducible repeat (first | refine kDN ?_ _ | refine kDr ?_ | refine kAl ?_ _)); exact BK174.out) k_ hk)); (case aO => exact (by (with_reducible repeat (first | apply Kd.R_alloc | apply Kd.R_drewN | apply Kd.R_drew)); exact Kd.R_mono (Kd.R_far (p := ⟨gb174, 4, none⟩) (Kd.R_far (p := ⟨gb174, 3, none⟩) (Kd.R_far (p := ⟨gb174, 2, none⟩) (Kd.R_far (p := ⟨gb174, 1, none⟩) (Kd.R_far (p := ⟨gb174, 0, none⟩) (Kd.R_mono HO_5.out (fun k_ hk => (⟨hk, hk.2⟩ : _ ∧ k_ ≠ gb174))) (fun _ hk => hk.2) (.int .i64 t168)) (fun _ hk => hk.2) (.string t169)) (fun _ hk => hk.2) (.string t170)) (fun _ hk => hk.2) (.int .i64 t171)) (fun _ hk => hk.2) (.int .i64 t172)) (fun _ hk => hk.1.2))); (case aS => exact (bSz (by repeat (first | (with_reducible first | exact HB.out | apply bAl | apply pbD | apply bD1 | refine bSt ?_ GE174.out) | exact HB.out)))); (case aL => have := LMc24.out; omega); intro v176 w29 ho hb hg hat; rw [← Ny175.out] at ho; have n0_ := aK (blk_grown (g := gb174) (o := .cells #[.int .i64 t168, .string t169, .string t170, .int .i64 t171, .int .i64 t172] 33 (0, 0)) (by (with_reducible repeat (first | refine kDN ?_ _ | refine kDr ?_ | refine kAl ?_ _)); refine blk_put (cs := #[.int .i64 t168, .string t169, .string t170, .int .i64 t171, .int .i64 0]) ?_ 4 _ rfl; (with_reducible repeat (first | refine kDN ?_ _ | refine kDr ?_ | refine kAl ?_ _)); refine blk_put (cs := #[.int .i64 t168, .string t169, .string t170, .int .i64 0, .int .i64 0]) ?_ 3 _ rfl; (with_reducible repeat (first | refine kDN ?_ _ | refine kDr ?_ | refine kAl ?_ _)); refine blk_put (cs := #[.int .i64 t168, .string t169, .string (⟨#[]⟩ : ByteArray), .int .i64 0, .int .i64 0]) ?_ 2 _ rfl; (with_reducible repeat (first | refine kDN ?_ _ | refine kDr ?_ | refine kAl ?_ _)); refine blk_put (cs := #[.int .i64 t168, .string (⟨#[]⟩ : ByteArray), .string (⟨#[]⟩ : ByteArray), .int .i64 0, .int .i64 0]) ?_ 1 _ rfl; (with_reducible repeat (first | refine kDN ?_ _ | refine kDr ?_ | refine kAl ?_ _)); refine blk_put (cs := #[.int .i64 0, .string (⟨#[]⟩ : ByteArray), .string (⟨#[]⟩ : ByteArray), .int .i64 0, .int .i64 0]) ?_ 0 _ rfl; (with_reducible repeat (first | refine kDN ?_ _ | refine kDr ?_ | refine kAl ?_ _)); exact BK174.out) hg (Kd.R_away HO_5.out (fun _ hk => hk.2))); have n1_ := aK (hb); have n2_ := aK (ho); clear BK174; clear HB; clear HO_5; have BK174 := n0_; have HB := n1_; have HO177 := n2_; clear n0_ n1_ n2_; clear ho hb hg hat))
          go_roundg kj11
          case measure => have := HK1.out; have := HJ3.out; have := HJ11.out; omega
          case rel => exact ⟨(y175), (wrap64 (x6_1 + 1)), (wrap64 (x8_1 + 1)), (wrap64 (x8_1 + 1)), (by first | rfl | (simp; done) | (simp [*]; done)), (by first | rfl | (simp; done) | (simp [*]; done)), (by first | rfl | (simp; done) | (simp [*]; done)), H', ⟨by have := HK1.out; have := HJ3.out; have := HJ11.out; omega⟩, ⟨by (with_reducible repeat (first | apply Kd.R_alloc | apply Kd.R_drewN | apply Kd.R_drew)); exact Kd.R_mono HO177.out (fun _ hk => trivial)⟩, ⟨by repeat (first | (with_reducible first | exact HB.out | apply bAl | apply pbD | apply bD1 | refine bSt ?_ GE174.out) | exact HB.out)⟩⟩
         rw [if_pos c19] at H
         have c19b0 : ((x5_1.length : Int) == 400) = true := beq_iff_eq.mpr c19
         have c19b1 : ((x5_1.length : Int) != 400) = false := bne_eq_false_iff_eq.mpr c19
         clear c19
         simp only [Option.some.injEq, Prod.mk.injEq] at H
         obtain ⟨rfl, rfl, rfl⟩ := H
         go_wp2_with (first | ((with_reducible refine gate_callee (f := 78) rfl ?_); refine goesL_ (some 45) rfl rfl Try.func78 (by kernel_rfl) rfl #[.string (a0.extract (x7_1 : Int).toNat (x8_1 : Int).toNat), .int .i64 x6_1] rfl (by (try simp only [qM0, qM1, qM2]); first | done | rfl | (simp only [qD0, qD1]; rfl)) ?_; (with_reducible refine (r8_rule.calls kj11 (a0.extract (x7_1 : Int).toNat (x8_1 : Int).toNat) x6_1 t168 t169 t170 t171 t172 true _ A17.out).mono ?_); rintro e w20 ⟨rfl, hb⟩; refine ⟨_, rfl, ?_⟩; have n0_ := aK (Kd.R_below (by (with_reducible repeat (first | apply Kd.R_alloc | apply Kd.R_drewN | apply Kd.R_drew)); exact HO_5.out) hb); have n1_ := aK (bSp (by repeat (first | (with_reducible first | exact HB.out | apply bAl | apply pbD | apply bD1) | exact HB.out)) hb); clear HO_5; clear HB; have HO_5 := n0_; have HB := n1_; clear n0_ n1_; (try clear hb); (try clear hb2); (try clear hk); (try clear hi)) | ((with_reducible refine gate_dst (N := 10) rfl ?_); refine box_event ?hg (N := 10) ?hd (cs := #[.int .i64 0, .string (⟨#[]⟩ : ByteArray), .string (⟨#[]⟩ : ByteArray), .int .i64 0, .int .i64 0]) (t := 33) ?hr ?_; (case hd => rfl); (case hg => rfl); (case hr => first | (go_simp; done) | (go_simp; rfl)); intro gb174 hg w21 hbox hb; have n0_ := aK (Kd.R_below (Kd.R_elderB (by (with_reducible repeat (first | apply Kd.R_alloc | apply Kd.R_drewN | apply Kd.R_drew)); exact HO_5.out) gb174 (Nat.le_of_eq hg.symm)) hb); have n1_ := aK (bSp (by repeat (first | (with_reducible first | exact HB.out | apply bAl | apply pbD | apply bD1) | exact HB.out)) hb); have n2_ := aK (hbox); have n3_ := aK ((by rw [hg]; exact (bSz (by repeat (first | (with_reducible first | exact HB.out | apply bAl | apply pbD | apply bD1) | exact HB.out))) : w.heap.size ≤ gb174)); have n4_ := aK ((by rw [hg]; exact (bSz (by repeat (first | (with_reducible first | exact HB.out | apply bAl | apply pbD | apply bD1) | exact HB.out))) : w.heap.size ≤ gb174)); clear HO_5; clear HB; have HO_5 := n0_; have HB := n1_; have BK174 := n2_; have GW174 := n3_; have GE174 := n4_; clear n0_ n1_ n2_ n3_ n4_; clear hb hbox hg; have hcz22_0 : w21.cell? ⟨gb174, 0, none⟩ = some (.int .i64 0) := (kCe BK174.out 0).trans rfl; have hcz22_1 : w21.cell? ⟨gb174, 1, none⟩ = some (.string (⟨#[]⟩ : ByteArray)) := (kCe BK174.out 1).trans rfl; have hcz22_2 : w21.cell? ⟨gb174, 2, none⟩ = some (.string (⟨#[]⟩ : ByteArray)) := (kCe BK174.out 2).trans rfl; have hcz22_3 : w21.cell? ⟨gb174, 3, none⟩ = some (.int .i64 0) := (kCe BK174.out 3).trans rfl; have hcz22_4 : w21.cell? ⟨gb174, 4, none⟩ = some (.int .i64 0) := (kCe BK174.out 4).trans rfl; have hfz22_0 := bFz BK174.out 0; have hfz22_1 := bFz BK174.out 1; have hfz22_2 := bFz BK174.out 2; have hfz22_3 := bFz BK174.out 3; have hfz22_4 := bFz BK174.out 4; obtain ⟨Ao23, co23, eo23⟩ := Kd.R_slice HO_5.out; subst eo23))
         go_ret3
         exact ⟨_, by first | rfl | (simp [eWn, eWs] <;> rfl) | (simp [*, eWn, eWs] <;> rfl), by first | exact Kd.R_nil _ _ _ _ _ | exact Kd.N_nil _ _ _ _ _ | exact Kd.V_nil _ _ _ _ _ | exact Kd.Q_nil _ _ _ _ _ | exact Kd.S_nil _ _ _ _ _, by repeat (first | (with_reducible first | exact HB.out | apply bAl | apply pbD | apply bD1 | refine bSt ?_ GE174.out) | exact HB.out)⟩
      subst c8
      have H1 : (r8_Parse.l0 kj3 a0 x5_1 x6_1 x7_1 (wrap64 (x8_1 + 1))) = some (r1, r2, r3) := by rw [if_pos rfl] at H; exact H
      clear H
      have H := H1
      clear H1
      have H' := aK H
      clear H
      go_wp2
      go_roundg kj3
      case measure => have := HK1.out; have := HJ3.out; omega
      case rel => exact ⟨(x5_1), (x6_1), (x7_1), (wrap64 (x8_1 + 1)), (by first | rfl | (simp; done) | (simp [*]; done)), (by first | rfl | (simp; done) | (simp [*]; done)), (by first | rfl | (simp; done) | (simp [*]; done)), H', ⟨by have := HK1.out; have := HJ3.out; omega⟩, ⟨by (with_reducible repeat (first | apply Kd.R_alloc | apply Kd.R_drewN | apply Kd.R_drew)); exact HO_5.out⟩, ⟨by repeat (first | (with_reducible first | exact HB.out | apply bAl | apply pbD | apply bD1) | exact HB.out)⟩⟩
 rw [if_pos c2] at H
 have c2b0 : decide (65536 < (a0.size : Int)) = true := decide_eq_true c2
 have c2b1 : decide (65536 < a0.size) = true := decide_eq_true (by omega)
 clear c2
 simp only [Option.some.injEq, Prod.mk.injEq] at H
 obtain ⟨rfl, rfl, rfl⟩ := H
 go_enter Try.func58, Try.ntmps58
 go_wp2
 go_ret3
 exact ⟨_, by first | rfl | (simp [eWn, eWs] <;> rfl) | (simp [*, eWn, eWs] <;> rfl), by first | exact Kd.R_nil _ _ _ _ _ | exact Kd.N_nil _ _ _ _ _ | exact Kd.V_nil _ _ _ _ _ | exact Kd.Q_nil _ _ _ _ _ | exact Kd.S_nil _ _ _ _ _, by repeat (first | (with_reducible first | exact HB.out | apply bAl | apply pbD | apply bD1) | exact HB.out)⟩
def r8_Base.f  : Option (ByteArray) := some (⟨#[97, 110, 121, 32, 97, 32, 49, 32, 53, 48, 10, 97, 110, 121, 32, 98, 32, 49, 50, 32, 53, 48, 10, 97, 110, 121, 32, 99, 32, 49, 52, 32, 53, 48, 10, 97, 110, 121, 32, 100, 32, 49, 52, 53, 32, 53, 48, 10, 97, 110, 121, 32, 101, 32, 49, 53, 32, 53, 48, 10, 97, 110, 121, 32, 102, 32, 49, 50, 52, 32, 53, 48, 10, 97, 110, 121, 32, 103, 32, 49, 50, 52, 53, 32, 53, 48, 10, 97, 110, 121, 32, 104, 32, 49, 50, 53, 32, 53, 48, 10, 97, 110, 121, 32, 105, 32, 50, 52, 32, 53, 48, 10, 97, 110, 121, 32, 106, 32, 50, 52, 53, 32, 53, 48, 10, 97, 110, 121, 32, 107, 32, 49, 51, 32, 53, 48, 10, 97, 110, 121, 32, 108, 32, 49, 50, 51, 32, 53, 48, 10, 97, 110, 121, 32, 109, 32, 49, 51, 52, 32, 53, 48, 10, 97, 110, 121, 32, 110, 32, 49, 51, 52, 53, 32, 53, 48, 10, 97, 110, 121, 32, 111, 32, 49, 51, 53, 32, 53, 48, 10, 97, 110, 121, 32, 112, 32, 49, 50, 51, 52, 32, 53, 48, 10, 97, 110, 121, 32, 113, 32, 49, 50, 51, 52, 53, 32, 53, 48, 10, 97, 110, 121, 32, 114, 32, 49, 50, 51, 53, 32, 53, 48, 10, 97, 110, 121, 32, 115, 32, 50, 51, 52, 32, 53, 48, 10, 97, 110, 121, 32, 116, 32, 50, 51, 52, 53, 32, 53, 48, 10, 97, 110, 121, 32, 117, 32, 49, 51, 54, 32, 53, 48, 10, 97, 110, 121, 32, 118, 32, 49, 50, 51, 54, 32, 53, 48, 10, 97, 110, 121, 32, 119, 32, 50, 52, 53, 54, 32, 53, 48, 10, 97, 110, 121, 32, 120, 32, 49, 51, 52, 54, 32, 53, 48, 10, 97, 110, 121, 32, 121, 32, 49, 51, 52, 53, 54, 32, 53, 48, 10, 97, 110, 121, 32, 122, 32, 49, 51, 53, 54, 32, 53, 48, 10, 97, 110, 121, 32, 97, 110, 100, 32, 49, 50, 51, 52, 54, 32, 49, 10, 97, 110, 121, 32, 102, 111, 114, 32, 49, 50, 51, 52, 53, 54, 32, 49, 10, 97, 110, 121, 32, 111, 102, 32, 49, 50, 51, 53, 54, 32, 49, 10, 97, 110, 121, 32, 116, 104, 101, 32, 50, 51, 52, 54, 32, 49, 10, 97, 110, 121, 32, 119, 105, 116, 104, 32, 50, 51, 52, 53, 54, 32, 49, 10, 97, 110, 121, 32, 99, 104, 32, 49, 54, 32, 49, 48, 10, 97, 110, 121, 32, 103, 104, 32, 49, 50, 54, 32, 49, 48, 10, 97, 110, 121, 32, 115, 104, 32, 49, 52, 54, 32, 49, 48, 10, 97, 110, 121, 32, 116, 104, 32, 49, 52, 53, 54, 32, 49, 48, 10, 97, 110, 121, 32, 119, 104, 32, 49, 53, 54, 32, 49, 48, 10, 97, 110, 121, 32, 101, 100, 32, 49, 50, 52, 54, 32, 49, 48, 10, 97, 110, 121, 32, 101, 114, 32, 49, 50, 52, 53, 54, 32, 49, 48, 10, 97, 110, 121, 32, 111, 117, 32, 49, 50, 53, 54, 32, 49, 48, 10, 97, 110, 121, 32, 111, 119, 32, 50, 52, 54, 32, 49, 48, 10, 97, 110, 121, 32, 115, 116, 32, 51, 52, 32, 49, 48, 10, 97, 110, 121, 32, 97, 114, 32, 51, 52, 53, 32, 49, 48, 10, 97, 110, 121, 32, 105, 110, 103, 32, 51, 52, 54, 32, 49, 48, 10, 98, 101, 103, 105, 110, 32, 99, 111, 110, 32, 52, 54, 45, 49, 52, 32, 53, 10, 98, 101, 103, 105, 110, 32, 100, 105, 115, 32, 52, 54, 45, 49, 52, 53, 32, 53, 10, 105, 110, 110, 101, 114, 32, 101, 97, 32, 52, 54, 45, 49, 53, 32, 50, 48, 10, 101, 110, 100, 32, 110, 101, 115, 115, 32, 53, 54, 45, 50, 51, 52, 32, 51, 10, 101, 110, 100, 32, 116, 105, 111, 110, 32, 53, 54, 45, 49, 51, 52, 53, 32, 51, 10, 119, 111, 114, 100, 32, 98, 117, 116, 32, 49, 50, 32, 48, 10, 119, 111, 114, 100, 32, 99, 97, 110, 32, 49, 52, 32, 48, 10, 119, 111, 114, 100, 32, 100, 111, 32, 49, 52, 53, 32, 48, 10, 119, 111, 114, 100, 32, 101, 118, 101, 114, 121, 32, 49, 53, 32, 48, 10, 119, 111, 114, 100, 32, 102, 114, 111, 109, 32, 49, 50, 52, 32, 48, 10, 119, 111, 114, 100, 32, 103, 111, 32, 49, 50, 52, 53, 32, 48, 10, 119, 111, 114, 100, 32, 104, 97, 118, 101, 32, 49, 50, 53, 32, 48, 10, 119, 111, 114, 100, 32, 106, 117, 115, 116, 32, 50, 52, 53, 32, 48, 10, 119, 111, 114, 100, 32, 107, 110, 111, 119, 108, 101, 100, 103, 101, 32, 49, 51, 32, 48, 10, 119, 111, 114, 100, 32, 108, 105, 107, 101, 32, 49, 50, 51, 32, 48, 10, 119, 111, 114, 100, 32, 109, 111, 114, 101, 32, 49, 51, 52, 32, 48, 10, 119, 111, 114, 100, 32, 110, 111, 116, 32, 49, 51, 52, 53, 32, 48, 10, 119, 111, 114, 100, 32, 112, 101, 111, 112, 108, 101, 32, 49, 50, 51, 52, 32, 48, 10, 119, 111, 114, 100, 32, 113, 117, 105, 116, 101, 32, 49, 50, 51, 52, 53, 32, 48, 10, 119, 111, 114, 100, 32, 114, 97, 116, 104, 101, 114, 32, 49, 50, 51, 53, 32, 48, 10, 119, 111, 114, 100, 32, 115, 111, 32, 50, 51, 52, 32, 48, 10, 119, 111, 114, 100, 32, 116, 104, 97, 116, 32, 50, 51, 52, 53, 32, 48, 10, 119, 111, 114, 100, 32, 117, 115, 32, 49, 51, 54, 32, 48, 10, 119, 111, 114, 100, 32, 118, 101, 114, 121, 32, 49, 50, 51, 54, 32, 48, 10, 119, 111, 114, 100, 32, 119, 105, 108, 108, 32, 50, 52, 53, 54, 32, 48, 10, 119, 111, 114, 100, 32, 105, 116, 32, 49, 51, 52, 54, 32, 48, 10, 119, 111, 114, 100, 32, 121, 111, 117, 32, 49, 51, 52, 53, 54, 32, 48, 10, 119, 111, 114, 100, 32, 97, 115, 32, 49, 51, 53, 54, 32, 48, 10, 109, 97, 114, 107, 32, 46, 32, 50, 53, 54, 10, 109, 97, 114, 107, 32, 44, 32, 50, 10, 109, 97, 114, 107, 32, 59, 32, 50, 51, 10, 109, 97, 114, 107, 32, 58, 32, 50, 53, 10, 109, 97, 114, 107, 32, 33, 32, 50, 51, 53, 10, 109, 97, 114, 107, 32, 63, 32, 50, 51, 54, 10, 109, 97, 114, 107, 32, 39, 32, 51, 10, 109, 97, 114, 107, 32, 34, 32, 53, 45, 50, 51, 54, 10, 109, 97, 114, 107, 32, 45, 32, 51, 54, 10, 109, 97, 114, 107, 32, 40, 32, 53, 45, 49, 50, 54, 10, 109, 97, 114, 107, 32, 41, 32, 53, 45, 51, 52, 53, 10, 109, 97, 114, 107, 32, 47, 32, 53, 45, 51, 52, 10, 100, 105, 103, 105, 116, 32, 48, 32, 50, 52, 53, 10, 100, 105, 103, 105, 116, 32, 49, 32, 49, 10, 100, 105, 103, 105, 116, 32, 50, 32, 49, 50, 10, 100, 105, 103, 105, 116, 32, 51, 32, 49, 52, 10, 100, 105, 103, 105, 116, 32, 52, 32, 49, 52, 53, 10, 100, 105, 103, 105, 116, 32, 53, 32, 49, 53, 10, 100, 105, 103, 105, 116, 32, 54, 32, 49, 50, 52, 10, 100, 105, 103, 105, 116, 32, 55, 32, 49, 50, 52, 53, 10, 100, 105, 103, 105, 116, 32, 56, 32, 49, 50, 53, 10, 100, 105, 103, 105, 116, 32, 57, 32, 50, 52, 10, 115, 105, 103, 110, 32, 99, 97, 112, 32, 54, 10, 115, 105, 103, 110, 32, 99, 97, 112, 115, 32, 52, 53, 45, 54, 10, 115, 105, 103, 110, 32, 110, 117, 109, 32, 51, 52, 53, 54, 10, 115, 105, 103, 110, 32, 108, 101, 116, 32, 53, 54, 45, 53, 54, 10, 115, 105, 103, 110, 32, 101, 43, 32, 52, 54, 45, 49, 10, 115, 105, 103, 110, 32, 101, 45, 32, 52, 54, 45, 51, 10, 115, 105, 103, 110, 32, 115, 43, 32, 52, 53, 45, 49, 10, 115, 105, 103, 110, 32, 115, 45, 32, 52, 53, 45, 51, 10, 115, 105, 103, 110, 32, 110, 43, 32, 53, 45, 49, 10, 115, 105, 103, 110, 32, 110, 45, 32, 53, 45, 51, 10, 115, 105, 103, 110, 32, 98, 108, 107, 32, 52, 10, 115, 105, 103, 110, 32, 99, 111, 110, 116, 32, 52, 53, 54, 10, 115, 105, 103, 110, 32, 105, 110, 100, 32, 50, 51, 53, 54, 10]⟩ : ByteArray)
theorem r8_Base.calls  (r : ByteArray) (w : World) (h : r8_Base.f  = some r) :
  Calls Try.prog 59 #[] w fun e w' => e = .returned (.string r) ∧ Drawn0 w w' := by
 have H := h
 unfold r8_Base.f at H
 clear h
 obtain rfl := oI H
 go_enter Try.func59, Try.ntmps59
 go_wp2
 go_ret
 exact ⟨by first | rfl | (simp; done) | (simp [*]; done), by repeat (first | exact Drawn0.refl _ | apply Drawn0.step)⟩
def r9_Base.f (k : Nat)  : Option ((List (S33))) := (r8_Base.f).bind fun t178 => ((r8_Parse.f k t178).bind fun bt179 => (some bt179.1))
theorem r9_Base.calls (k : Nat)  (r : List (S33)) (w : World) (h : r9_Base.f k  = some r) :
  Calls Try.prog 32 #[] w fun e w' => ∃ v0_ : Value, e = .returned (v0_) ∧ Kd.R k33 33 w' w.heap.size (fun _ => True) v0_ r ∧ Below w.heap.size w w' := by
 have HB := aK (Below.refl w.heap.size w)
 have H : ((r8_Base.f).bind fun t178 => ((r8_Parse.f k t178).bind fun bt179 => (some bt179.1))) = some r := h
 clear h
 replace H := oB H
 obtain ⟨t178, A10, H⟩ := H
 try dsimp only at H
 have A1 := aK A10
 clear A10
 replace H := oB H
 obtain ⟨⟨t179, t180, t181⟩, A20, H⟩ := H
 replace H : (some t179) = some r := H
 have A2 := aK A20
 clear A20
 obtain rfl := oI H
 go_enter Try.func32, Try.ntmps32
 go_wp2_with (first | ((with_reducible refine gate_callee (f := 59) rfl ?_); refine goesL_ (some 5) rfl rfl Try.func59 (by kernel_rfl) rfl #[] rfl (by (try simp only [qM0, qM1, qM2]); first | done | rfl | (simp only [qD0, qD1]; rfl)) ?_; (with_reducible refine (r8_Base.calls  t178 _ A1.out).mono ?_); rintro e w' ⟨rfl, ⟨nd, rfl⟩⟩; refine ⟨_, rfl, ?_⟩) | ((with_reducible refine gate_callee (f := 58) rfl ?_); refine goesL_ (some 6) rfl rfl Try.func58 (by kernel_rfl) rfl #[.string t178] rfl (by (try simp only [qM0, qM1, qM2]); first | done | rfl | (simp only [qD0, qD1]; rfl)) ?_; (with_reducible refine (r8_Parse.calls k t178 t179 t180 t181 _ A2.out).mono ?_); rintro e w3 ⟨v182, rfl, ho0, hb⟩; refine ⟨_, rfl, ?_⟩; have n0_ := aK (Kd.R_lower ho0 (bSz (by repeat (first | (with_reducible first | exact HB.out | apply bAl | apply pbD | apply bD1) | exact HB.out)))); have n1_ := aK (bSp (by repeat (first | (with_reducible first | exact HB.out | apply bAl | apply pbD | apply bD1) | exact HB.out)) hb); clear HB; have HO183 := n0_; have HB := n1_; clear n0_ n1_; (try clear hb); (try clear hb2); (try clear hk); (try clear hi); (try clear ho0)))
 go_ret
 exact ⟨_, by first | rfl | (simp [eWn, eWs] <;> rfl) | (simp [*, eWn, eWs] <;> rfl), by (with_reducible repeat (first | apply Kd.R_alloc | apply Kd.R_drewN | apply Kd.R_drew)); exact HO183.out, by repeat (first | (with_reducible first | exact HB.out | apply bAl | apply pbD | apply bD1) | exact HB.out)⟩
def w10_is.f (l0 : List (S33)) (a1 : Int) (a2 : Bool) (a3 : Int) (a4 : ByteArray) : Option (Bool) := if a2 = true then (if a1 ≥ 0 then (if a1 < (l0.length : Int) then (if 0 ≤ a1 then (if ((rd_T33 l0 a1).f0) = a3 then (some (((rd_T33 l0 a1).f1).toList == a4.toList)) else (some false)) else (none)) else (some false)) else (some false)) else (some false)
def cell_may.f (a0 : Int) : Option (Bool) := some ((a0 / 64) == 0)
theorem cell_may.calls (a0 : Int) (r : Bool) (w : World) (h : cell_may.f a0 = some r) :
  Calls Try.prog 94 #[.int .u8 a0] w fun e w' => e = .returned (.bool r) ∧ Drawn0 w w' := by
 have H : (some ((a0 / 64) == 0)) = some r := h
 clear h
 obtain rfl := oI H
 go_enter Try.func94, Try.ntmps94
 go_wp2
 go_ret
 exact ⟨by first | rfl | (simp; done) | (simp [*]; done), by repeat (first | exact Drawn0.refl _ | apply Drawn0.step)⟩
def cell_Dots.l0 : Nat → Int → List Int → Int → Option (ByteArray)
 | 0, _, _, _ => none
 | k + 1, x0, x3, x5 => if x5 < 6 then (if 0 ≤ x5 then (if (Go.bits .and .u8 (shr .u8 x0 x5) 1) = 1 then (if x3.length < 140737488355328 then (cell_Dots.l0 k x0 (x3 ++ [(wrap64 (49 + x5)) % 256]) (wrap64 (x5 + 1))) else (none)) else (cell_Dots.l0 k x0 x3 (wrap64 (x5 + 1)))) else (none)) else (some (strOfNums x3))
def cell_Dots.f (k : Nat) (a0 : Int) : Option (ByteArray) := cell_Dots.l0 k a0 ([] : List Int) 0
theorem cell_Dots.mono_l : ∀ k, (∀ y0 y1 y2, LeO (cell_Dots.l0 k y0 y1 y2) (cell_Dots.l0 (k + 1) y0 y1 y2))
 | 0 => fun _ _ _ r h => by simp [cell_Dots.l0] at h
 | k + 1 => by
  have ih0 := cell_Dots.mono_l k
  ·
   intro y0 y1 y2
   unfold cell_Dots.l0
   repeat' first
   | (with_reducible first | exact ih0 _ _ _ | exact LeO.refl _ | exact LeO.none _ | refine LeO.ite ?_ ?_ | refine LeO.bind ?_ (fun _ => ?_))
   | exact ih0 _ _ _
   | exact LeO.none _
   | refine LeO.ite ?_ ?_
   | refine LeO.bind ?_ (fun _ => ?_)
theorem cell_Dots.mono : ∀ a0 k, LeO (cell_Dots.f k a0) (cell_Dots.f (k + 1) a0) := by
 intro a0 k
 have ih0 := cell_Dots.mono_l k
 unfold cell_Dots.f
 repeat' first
   | (with_reducible first | exact ih0 _ _ _ | exact LeO.refl _ | exact LeO.none _ | refine LeO.ite ?_ ?_ | refine LeO.bind ?_ (fun _ => ?_))
   | exact ih0 _ _ _
   | exact LeO.none _
   | refine LeO.ite ?_ ?_
   | refine LeO.bind ?_ (fun _ => ?_)
theorem cell_Dots.calls (k : Nat) (a0 : Int) (r : ByteArray) (w : World) (h : cell_Dots.f k a0 = some r) :
  Calls Try.prog 95 #[.int .u8 a0] w fun e w' => e = .returned (.string r) ∧ Below w.heap.size w w' := by
 have HB := aK (Below.refl w.heap.size w)
 have H : (cell_Dots.l0 k a0 ([] : List Int) 0) = some r := h
 clear h
 have H' := aK H
 clear H
 go_enter Try.func95, Try.ntmps95
 go_wp2
 go_loopg [3, 5] k (fun kq v3 v5 w' => ∃ (x3_1 : List Int) (x5_1 : Int), v5 = .int .i64 x5_1 ∧ Aside0 (cell_Dots.l0 kq a0 x3_1 x5_1 = some r) ∧ Aside0 (kq ≤ k) ∧ Aside0 (Kd.R (Kd.int .u8) 5 w' w.heap.size (fun _ => True) v3 x3_1) ∧ Aside0 (Below w.heap.size w w'))
 case atStart => exact ⟨(([] : List Int)), (0), (by first | rfl | (simp; done) | (simp [*]; done)), H', ⟨Nat.le_refl _⟩, ⟨by first | exact Kd.R_nil _ _ _ _ _ | exact Kd.N_nil _ _ _ _ _ | exact Kd.V_nil _ _ _ _ _ | exact Kd.Q_nil _ _ _ _ _ | exact Kd.S_nil _ _ _ _ _⟩, ⟨by repeat (first | (with_reducible first | exact HB.out | apply bAl | apply pbD | apply bD1) | exact HB.out)⟩⟩
 case round =>
  clear H'
  obtain ⟨x3_1, x5_1, rfl, HA, HK1, HO_3, HB⟩ := hrel
  cases gk with
  | zero => exact absurd HA.out (by simp [cell_Dots.l0])
  | succ k1 =>
   have H := HA.out
   clear HA
   simp only [cell_Dots.l0] at H
   by_cases c2 : x5_1 < 6
   rotate_left
   ·
    rw [if_neg c2] at H
    have c2b0 : decide (x5_1 < 6) = false := decide_eq_false c2
    clear c2
    obtain rfl := oI H
    have hcv8 := own_string (P := Try.prog) Try.underlying23 Try.underlying5 Try.underlying9 (Kd.own_of_R HO_3.out)
    go_wp2
    go_ret
    exact ⟨by first | rfl | (simp [eWn, eWs] <;> rfl) | (simp [*, eWn, eWs] <;> rfl), by repeat (first | (with_reducible first | exact HB.out | apply bAl | apply pbD | apply bD1) | exact HB.out)⟩
   rw [if_pos c2] at H
   have c2b0 : decide (x5_1 < 6) = true := decide_eq_true c2
   clear c2
   by_cases c3 : 0 ≤ x5_1
   rotate_left
   ·
    rw [if_neg c3] at H
    exact absurd H (by simp)
   rw [if_pos c3] at H
   have c3b0 := eq_true c3
   have c3b1 : decide (0 ≤ x5_1) = true := decide_eq_true c3
   clear c3
   obtain ⟨ji4, hji4⟩ : ∃ j_ : Int, (shr .u8 a0 x5_1) = j_ := ⟨_, rfl⟩
   replace H : (if (Go.bits .and .u8 (ji4) 1) = 1 then (if x3_1.length < 140737488355328 then (cell_Dots.l0 k1 a0 (x3_1 ++ [(wrap64 (49 + x5_1)) % 256]) (wrap64 (x5_1 + 1))) else (none)) else (cell_Dots.l0 k1 a0 x3_1 (wrap64 (x5_1 + 1)))) = some r := by first | (rw [hji4] at H; exact H) | (simp only [hji4] at H ⊢; exact H)
   have hji4_ : (a0 / 2 ^ min x5_1.toNat 8) = ji4 := hji4
   have hji4z : x5_1 ≤ 8 → (a0 / 2 ^ x5_1.toNat) = ji4 := shr_small hji4
   by_cases c5 : (Go.bits .and .u8 (ji4) 1) = 1
   rotate_left
   ·
    rw [if_neg c5] at H
    have c5b0 : ((Go.bits .and .u8 (ji4) 1) == 1) = false := beq_eq_false_iff_ne.mpr c5
    have c5b1 : ((Go.bits .and .u8 (ji4) 1) != 1) = true := bne_iff_ne.mpr c5
    have H' := aK H
    clear H
    go_wp2
    go_roundg k1
    case measure => have := HK1.out; omega
    case rel => exact ⟨(x3_1), (wrap64 (x5_1 + 1)), (by first | rfl | (simp; done) | (simp [*]; done)), H', ⟨by have := HK1.out; omega⟩, ⟨by (with_reducible repeat (first | apply Kd.R_alloc | apply Kd.R_drewN | apply Kd.R_drew)); exact HO_3.out⟩, ⟨by repeat (first | (with_reducible first | exact HB.out | apply bAl | apply pbD | apply bD1) | exact HB.out)⟩⟩
   rw [if_pos c5] at H
   have c5b0 : ((Go.bits .and .u8 (ji4) 1) == 1) = true := beq_iff_eq.mpr c5
   have c5b1 : ((Go.bits .and .u8 (ji4) 1) != 1) = false := bne_eq_false_iff_eq.mpr c5
   clear c5
   by_cases c6 : x3_1.length < 140737488355328
   rotate_left
   ·
    rw [if_neg c6] at H
    exact absurd H (by simp)
   rw [if_pos c6] at H
   have LMc6 := aK c6
   clear c6
   obtain ⟨y189, hy189⟩ : ∃ y_ : List Int, y_ = (x3_1 ++ [(wrap64 (49 + x5_1)) % 256]) := ⟨_, rfl⟩
   replace H : (cell_Dots.l0 k1 a0 y189 (wrap64 (x5_1 + 1))) = some r := by first | (rw [hy189]; with_reducible exact H) | (have H2_ := (Option.bind_some _ _).symm.trans H; rw [hy189]; with_reducible exact H2_) | (have H2_ := (Option.bind_some _ _).symm.trans H; with_reducible exact H2_) | with_reducible exact H | (rw [hy189]; exact H) | exact H
   have Ny189 := aK hy189
   clear hy189
   have H' := aK H
   clear H
   go_wp2_with (first | ((with_reducible refine gate_builtin (b := .append) (xs := #[.tmp 13, .tmp 17]) rfl ?_); at_builtin; refine Kd.R_append (Kd.int .u8) (w0 := w) w.heap.size rfl (.tmp 13) (.tmp 17) 23 5 (.int .u8 0) 1 rfl Try.underlying23 info5 rfl (by decide) (by omega) u3 x3_1 ((wrap64 (49 + x5_1)) % 256) [.int .u8 ((wrap64 (49 + x5_1)) % 256)] (fun _ => True) (fun _ => False) rfl rfl ?aP (fun _ hk => hk.elim) ?aF ?aO ?aB ?aS ?aL ?_; (case aP => exact rfl); (case aB => exact (by repeat (first | (with_reducible first | exact HB.out | apply bAl | apply pbD | apply bD1) | exact HB.out))); (case aF => exact (fun _ _ => trivial)); (case aO => exact (by (with_reducible repeat (first | apply Kd.R_alloc | apply Kd.R_drewN | apply Kd.R_drew)); exact HO_3.out)); (case aS => exact (bSz (by repeat (first | (with_reducible first | exact HB.out | apply bAl | apply pbD | apply bD1) | exact HB.out)))); (case aL => have := LMc6.out; omega); intro v190 w7 ho hb hg hat; rw [← Ny189.out] at ho; have n0_ := aK (hb); have n1_ := aK (ho); clear HB; clear HO_3; have HB := n0_; have HO191 := n1_; clear n0_ n1_; clear ho hb hg hat))
   go_roundg k1
   case measure => have := HK1.out; omega
   case rel => exact ⟨(y189), (wrap64 (x5_1 + 1)), (by first | rfl | (simp; done) | (simp [*]; done)), H', ⟨by have := HK1.out; omega⟩, ⟨by (with_reducible repeat (first | apply Kd.R_alloc | apply Kd.R_drewN | apply Kd.R_drew)); exact HO191.out⟩, ⟨by repeat (first | (with_reducible first | exact HB.out | apply bAl | apply pbD | apply bD1) | exact HB.out)⟩⟩
def cell_Print.l0 : Nat → ByteArray → List ByteArray → Int → Int → Option (ByteArray × Int)
 | 0, _, _, _, _ => none
 | k + 1, x0, x4, x7, x8 => if x8 < x7 then (if 0 ≤ x8 then (if x8 < (x0.size : Int) then ((cell_may.f (bt x0 x8)).bind fun t193 => (if t193 = true then (if (bt x0 x8) = 0 then (some ((⟨#[]⟩ : ByteArray), 1)) else ((cell_Dots.f k (bt x0 x8)).bind fun t194 => (if x4.length < 8796093022208 then (cell_Print.l0 k x0 (x4 ++ [t194]) x7 (wrap64 (x8 + 1))) else (none)))) else (some ((⟨#[]⟩ : ByteArray), 1)))) else (none)) else (none)) else (if (x4.length : Int) = 0 then (some ((⟨#[]⟩ : ByteArray), 1)) else (if (x4.length : Int) > 4 then (some ((⟨#[]⟩ : ByteArray), 1)) else ((strings_Join.f x4 (⟨#[45]⟩ : ByteArray)).bind fun t192 => (some (t192, 0)))))
def cell_Print.f (k : Nat) (a0 : ByteArray) : Option (ByteArray × Int) := cell_Print.l0 k a0 ([] : List ByteArray) (a0.size : Int) 0
theorem cell_Print.calls (k : Nat) (a0 : ByteArray) (r1 : ByteArray) (r2 : Int) (w : World) (h : cell_Print.f k a0 = some (r1, r2)) :
  Calls Try.prog 79 #[.string a0] w fun e w' => e = .returned (.tuple #[.string r1, .int .i64 r2]) ∧ Below w.heap.size w w' := by
 have HB := aK (Below.refl w.heap.size w)
 have H : (cell_Print.l0 k a0 ([] : List ByteArray) (a0.size : Int) 0) = some (r1, r2) := h
 clear h
 have H' := aK H
 clear H
 go_enter Try.func79, Try.ntmps79
 go_wp2
 go_loopg [4, 8] k (fun kq v4 v8 w' => ∃ (x4_1 : List ByteArray) (x8_1 : Int), v8 = .int .i64 x8_1 ∧ Aside0 (cell_Print.l0 kq a0 x4_1 (a0.size : Int) x8_1 = some (r1, r2)) ∧ Aside0 (kq ≤ k) ∧ Aside0 (Kd.R Kd.string 9 w' w.heap.size (fun _ => True) v4 x4_1) ∧ Aside0 (Below w.heap.size w w'))
 case atStart => exact ⟨(([] : List ByteArray)), (0), (by first | rfl | (simp; done) | (simp [*]; done)), H', ⟨Nat.le_refl _⟩, ⟨by first | exact Kd.R_nil _ _ _ _ _ | exact Kd.N_nil _ _ _ _ _ | exact Kd.V_nil _ _ _ _ _ | exact Kd.Q_nil _ _ _ _ _ | exact Kd.S_nil _ _ _ _ _⟩, ⟨by repeat (first | (with_reducible first | exact HB.out | apply bAl | apply pbD | apply bD1) | exact HB.out)⟩⟩
 case round =>
  clear H'
  obtain ⟨x4_1, x8_1, rfl, HA, HK1, HO_4, HB⟩ := hrel
  cases gk with
  | zero => exact absurd HA.out (by simp [cell_Print.l0])
  | succ k1 =>
   have H := HA.out
   clear HA
   simp only [cell_Print.l0] at H
   by_cases c2 : x8_1 < (a0.size : Int)
   rotate_left
   ·
    rw [if_neg c2] at H
    have c2b0 : decide (x8_1 < (a0.size : Int)) = false := decide_eq_false c2
    clear c2
    by_cases c15 : (x4_1.length : Int) = 0
    rotate_left
    ·
     rw [if_neg c15] at H
     have c15b0 : ((x4_1.length : Int) == 0) = false := beq_eq_false_iff_ne.mpr c15
     have c15b1 : ((x4_1.length : Int) != 0) = true := bne_iff_ne.mpr c15
     have c15b2 : ¬ (x4_1 = []) := fun h_ => c15 (by rw [h_]; rfl)
     by_cases c17 : (x4_1.length : Int) > 4
     rotate_left
     ·
      rw [if_neg c17] at H
      have c17b0 : decide (4 < (x4_1.length : Int)) = false := decide_eq_false c17
      have c17b1 : decide (4 < x4_1.length) = false := decide_eq_false (by omega)
      clear c17
      replace H := oB H
      obtain ⟨t192, A190, H⟩ := H
      replace H : (some (t192, 0)) = some (r1, r2) := H
      have A19 := aK A190
      clear A190
      simp only [Option.some.injEq, Prod.mk.injEq] at H
      obtain ⟨rfl, rfl⟩ := H
      obtain ⟨Ao20, co20, eo20⟩ := Kd.R_slice HO_4.out
      subst eo20
      go_wp2_with (first | ((with_reducible refine gate_callee (f := 96) rfl ?_); refine goesL_ (some 39) rfl rfl Try.func96 (by kernel_rfl) rfl #[.slice Ao20 x4_1.length co20, .string (⟨#[45]⟩ : ByteArray)] rfl (by (try simp only [qM0, qM1, qM2]); first | done | rfl | (simp only [qD0, qD1]; rfl)) ?_; (with_reducible refine (strings_Join.calls _ _ x4_1 (⟨#[45]⟩ : ByteArray) t192 _ ?side1 ?side2 A19.out).mono ?_); (case side1 => repeat (first | exact (Kd.R_reads' HO_4.out).2.2 | (with_reducible refine Kd.C_alloc ?_ _) | (with_reducible refine Kd.C_drewN ?_ _) | (with_reducible refine Kd.C_drew ?_))); (case side2 => exact (Kd.R_reads' HO_4.out).2.1); rintro e w21 ⟨rfl, hb⟩; refine ⟨_, rfl, ?_⟩; have n0_ := aK (Kd.R_below (by (with_reducible repeat (first | apply Kd.R_alloc | apply Kd.R_drewN | apply Kd.R_drew)); exact HO_4.out) hb); have n1_ := aK (bSp (by repeat (first | (with_reducible first | exact HB.out | apply bAl | apply pbD | apply bD1) | exact HB.out)) hb); clear HO_4; clear HB; have HO_4 := n0_; have HB := n1_; clear n0_ n1_; (try clear hb); (try clear hb2); (try clear hk); (try clear hi)))
      go_ret2
      exact ⟨by first | rfl | (simp [eWn, eWs] <;> rfl) | (simp [*, eWn, eWs] <;> rfl), by repeat (first | (with_reducible first | exact HB.out | apply bAl | apply pbD | apply bD1) | exact HB.out)⟩
     rw [if_pos c17] at H
     have c17b0 : decide (4 < (x4_1.length : Int)) = true := decide_eq_true c17
     have c17b1 : decide (4 < x4_1.length) = true := decide_eq_true (by omega)
     clear c17
     simp only [Option.some.injEq, Prod.mk.injEq] at H
     obtain ⟨rfl, rfl⟩ := H
     obtain ⟨Ao18, co18, eo18⟩ := Kd.R_slice HO_4.out
     subst eo18
     go_wp2
     go_ret2
     exact ⟨by first | rfl | (simp [eWn, eWs] <;> rfl) | (simp [*, eWn, eWs] <;> rfl), by repeat (first | (with_reducible first | exact HB.out | apply bAl | apply pbD | apply bD1) | exact HB.out)⟩
    rw [if_pos c15] at H
    have c15b0 : ((x4_1.length : Int) == 0) = true := beq_iff_eq.mpr c15
    have c15b1 : ((x4_1.length : Int) != 0) = false := bne_eq_false_iff_eq.mpr c15
    clear c15
    simp only [Option.some.injEq, Prod.mk.injEq] at H
    obtain ⟨rfl, rfl⟩ := H
    obtain ⟨Ao16, co16, eo16⟩ := Kd.R_slice HO_4.out
    subst eo16
    go_wp2
    go_ret2
    exact ⟨by first | rfl | (simp [eWn, eWs] <;> rfl) | (simp [*, eWn, eWs] <;> rfl), by repeat (first | (with_reducible first | exact HB.out | apply bAl | apply pbD | apply bD1) | exact HB.out)⟩
   rw [if_pos c2] at H
   have c2b0 : decide (x8_1 < (a0.size : Int)) = true := decide_eq_true c2
   clear c2
   by_cases c3 : 0 ≤ x8_1
   rotate_left
   ·
    rw [if_neg c3] at H
    exact absurd H (by simp)
   rw [if_pos c3] at H
   have c3b0 : decide (0 ≤ x8_1) = true := decide_eq_true c3
   clear c3
   by_cases c4 : x8_1 < (a0.size : Int)
   rotate_left
   ·
    rw [if_neg c4] at H
    exact absurd H (by simp)
   rw [if_pos c4] at H
   have c4b0 : decide (x8_1 < (a0.size : Int)) = true := decide_eq_true c4
   clear c4
   replace H := oB H
   obtain ⟨t193, A60, H⟩ := H
   try dsimp only at H
   have A6 := aK A60
   clear A60
   by_cases c7 : t193 = true
   rotate_left
   ·
    replace c7 := Bool.eq_false_iff.mpr c7
    subst c7
    have H1 : (some ((⟨#[]⟩ : ByteArray), 1)) = some (r1, r2) := by rw [if_neg (show ¬ (false = true) by decide)] at H; exact H
    clear H
    have H := H1
    clear H1
    simp only [Option.some.injEq, Prod.mk.injEq] at H
    obtain ⟨rfl, rfl⟩ := H
    have p5 : 0 ≤ (x8_1 : Int) := odT (by first | (with_reducible assumption) | assumption)
    have q5 : x8_1 < (a0.size : Int) := odT (by first | (with_reducible assumption) | assumption)
    have hx5 := bt_at a0 x8_1
    replace p5 := eq_true p5
    replace q5 := eq_true q5
    go_wp2_with (first | ((with_reducible refine gate_callee (f := 94) rfl ?_); refine goesL_ (some 14) rfl rfl Try.func94 (by kernel_rfl) rfl #[.int .u8 (bt a0 x8_1)] rfl (by (try simp only [qM0, qM1, qM2]); first | done | rfl | (simp only [qD0, qD1]; rfl)) ?_; (with_reducible refine (cell_may.calls (bt a0 x8_1) false _ A6.out).mono ?_); rintro e w' ⟨rfl, ⟨nd, rfl⟩⟩; refine ⟨_, rfl, ?_⟩))
    go_ret2
    exact ⟨by first | rfl | (simp [eWn, eWs] <;> rfl) | (simp [*, eWn, eWs] <;> rfl), by repeat (first | (with_reducible first | exact HB.out | apply bAl | apply pbD | apply bD1) | exact HB.out)⟩
   subst c7
   have H1 : (if (bt a0 x8_1) = 0 then (some ((⟨#[]⟩ : ByteArray), 1)) else ((cell_Dots.f k1 (bt a0 x8_1)).bind fun t194 => (if x4_1.length < 8796093022208 then (cell_Print.l0 k1 a0 (x4_1 ++ [t194]) (a0.size : Int) (wrap64 (x8_1 + 1))) else (none)))) = some (r1, r2) := by rw [if_pos rfl] at H; exact H
   clear H
   have H := H1
   clear H1
   by_cases c9 : (bt a0 x8_1) = 0
   rotate_left
   ·
    rw [if_neg c9] at H
    have c9b0 : ((bt a0 x8_1) == 0) = false := beq_eq_false_iff_ne.mpr c9
    have c9b1 : ((bt a0 x8_1) != 0) = true := bne_iff_ne.mpr c9
    replace H := oB H
    obtain ⟨t194, A110, H⟩ := H
    try dsimp only at H
    have A11 := aK A110
    clear A110
    by_cases c12 : x4_1.length < 8796093022208
    rotate_left
    ·
     rw [if_neg c12] at H
     exact absurd H (by simp)
    rw [if_pos c12] at H
    have LMc12 := aK c12
    clear c12
    obtain ⟨y195, hy195⟩ : ∃ y_ : List ByteArray, y_ = (x4_1 ++ [t194]) := ⟨_, rfl⟩
    replace H : (cell_Print.l0 k1 a0 y195 (a0.size : Int) (wrap64 (x8_1 + 1))) = some (r1, r2) := by first | (rw [hy195]; with_reducible exact H) | (have H2_ := (Option.bind_some _ _).symm.trans H; rw [hy195]; with_reducible exact H2_) | (have H2_ := (Option.bind_some _ _).symm.trans H; with_reducible exact H2_) | with_reducible exact H | (rw [hy195]; exact H) | exact H
    have Ny195 := aK hy195
    clear hy195
    have H' := aK H
    clear H
    have p5 : 0 ≤ (x8_1 : Int) := odT (by first | (with_reducible assumption) | assumption)
    have q5 : x8_1 < (a0.size : Int) := odT (by first | (with_reducible assumption) | assumption)
    have hx5 := bt_at a0 x8_1
    replace p5 := eq_true p5
    replace q5 := eq_true q5
    go_wp2_with (first | ((with_reducible refine gate_callee (f := 94) rfl ?_); refine goesL_ (some 14) rfl rfl Try.func94 (by kernel_rfl) rfl #[.int .u8 (bt a0 x8_1)] rfl (by (try simp only [qM0, qM1, qM2]); first | done | rfl | (simp only [qD0, qD1]; rfl)) ?_; (with_reducible refine (cell_may.calls (bt a0 x8_1) true _ A6.out).mono ?_); rintro e w' ⟨rfl, ⟨nd, rfl⟩⟩; refine ⟨_, rfl, ?_⟩; have p8 : 0 ≤ (x8_1 : Int) := odT (by first | (with_reducible assumption) | assumption); have q8 : x8_1 < (a0.size : Int) := odT (by first | (with_reducible assumption) | assumption); have hx8 := bt_at a0 x8_1; replace p8 := eq_true p8; replace q8 := eq_true q8; have p10 : 0 ≤ (x8_1 : Int) := odT (by first | (with_reducible assumption) | assumption); have q10 : x8_1 < (a0.size : Int) := odT (by first | (with_reducible assumption) | assumption); have hx10 := bt_at a0 x8_1; replace p10 := eq_true p10; replace q10 := eq_true q10) | ((with_reducible refine gate_callee (f := 95) rfl ?_); refine goesL_ (some 26) rfl rfl Try.func95 (by kernel_rfl) rfl #[.int .u8 (bt a0 x8_1)] rfl (by (try simp only [qM0, qM1, qM2]); first | done | rfl | (simp only [qD0, qD1]; rfl)) ?_; (with_reducible refine (cell_Dots.calls k1 (bt a0 x8_1) t194 _ A11.out).mono ?_); rintro e w13 ⟨rfl, hb⟩; refine ⟨_, rfl, ?_⟩; have n0_ := aK (Kd.R_below (by (with_reducible repeat (first | apply Kd.R_alloc | apply Kd.R_drewN | apply Kd.R_drew)); exact HO_4.out) hb); have n1_ := aK (bSp (by repeat (first | (with_reducible first | exact HB.out | apply bAl | apply pbD | apply bD1) | exact HB.out)) hb); clear HO_4; clear HB; have HO_4 := n0_; have HB := n1_; clear n0_ n1_; (try clear hb); (try clear hb2); (try clear hk); (try clear hi)) | ((with_reducible refine gate_builtin (b := .append) (xs := #[.tmp 22, .tmp 27]) rfl ?_); (try (refine gate_guard (by rfl) ?_; dsimp only)); at_builtin; refine Kd.R_append Kd.string (w0 := w) w.heap.size rfl (.tmp 22) (.tmp 27) 101 9 (.string ⟨#[]⟩) 16 rfl Try.underlying101 info9 rfl (by decide) (by omega) u4 x4_1 t194 [.string t194] (fun _ => True) (fun _ => False) rfl rfl ?aP (fun _ hk => hk.elim) ?aF ?aO ?aB ?aS ?aL ?_; (case aP => exact rfl); (case aB => exact (by repeat (first | (with_reducible first | exact HB.out | apply bAl | apply pbD | apply bD1) | exact HB.out))); (case aF => exact (fun _ _ => trivial)); (case aO => exact (by (with_reducible repeat (first | apply Kd.R_alloc | apply Kd.R_drewN | apply Kd.R_drew)); exact HO_4.out)); (case aS => exact (bSz (by repeat (first | (with_reducible first | exact HB.out | apply bAl | apply pbD | apply bD1) | exact HB.out)))); (case aL => have := LMc12.out; omega); intro v196 w14 ho hb hg hat; rw [← Ny195.out] at ho; have n0_ := aK (hb); have n1_ := aK (ho); clear HB; clear HO_4; have HB := n0_; have HO197 := n1_; clear n0_ n1_; clear ho hb hg hat))
    go_roundg k1
    case measure => have := HK1.out; omega
    case rel => exact ⟨(y195), (wrap64 (x8_1 + 1)), (by first | rfl | (simp; done) | (simp [*]; done)), H', ⟨by have := HK1.out; omega⟩, ⟨by (with_reducible repeat (first | apply Kd.R_alloc | apply Kd.R_drewN | apply Kd.R_drew)); exact HO197.out⟩, ⟨by repeat (first | (with_reducible first | exact HB.out | apply bAl | apply pbD | apply bD1) | exact HB.out)⟩⟩
   rw [if_pos c9] at H
   have c9b0 : ((bt a0 x8_1) == 0) = true := beq_iff_eq.mpr c9
   have c9b1 : ((bt a0 x8_1) != 0) = false := bne_eq_false_iff_eq.mpr c9
   clear c9
   simp only [Option.some.injEq, Prod.mk.injEq] at H
   obtain ⟨rfl, rfl⟩ := H
   have p5 : 0 ≤ (x8_1 : Int) := odT (by first | (with_reducible assumption) | assumption)
   have q5 : x8_1 < (a0.size : Int) := odT (by first | (with_reducible assumption) | assumption)
   have hx5 := bt_at a0 x8_1
   replace p5 := eq_true p5
   replace q5 := eq_true q5
   go_wp2_with (first | ((with_reducible refine gate_callee (f := 94) rfl ?_); refine goesL_ (some 14) rfl rfl Try.func94 (by kernel_rfl) rfl #[.int .u8 (bt a0 x8_1)] rfl (by (try simp only [qM0, qM1, qM2]); first | done | rfl | (simp only [qD0, qD1]; rfl)) ?_; (with_reducible refine (cell_may.calls (bt a0 x8_1) true _ A6.out).mono ?_); rintro e w' ⟨rfl, ⟨nd, rfl⟩⟩; refine ⟨_, rfl, ?_⟩; have p8 : 0 ≤ (x8_1 : Int) := odT (by first | (with_reducible assumption) | assumption); have q8 : x8_1 < (a0.size : Int) := odT (by first | (with_reducible assumption) | assumption); have hx8 := bt_at a0 x8_1; replace p8 := eq_true p8; replace q8 := eq_true q8))
   go_ret2
   exact ⟨by first | rfl | (simp [eWn, eWs] <;> rfl) | (simp [*, eWn, eWs] <;> rfl), by repeat (first | (with_reducible first | exact HB.out | apply bAl | apply pbD | apply bD1) | exact HB.out)⟩
def rules_letters.f (a0 : Int) : Option (Bool) := if a0 ≥ 1 then (some (decide (a0 ≤ 5))) else (some false)
theorem rules_letters.calls (a0 : Int) (r : Bool) (w : World) (h : rules_letters.f a0 = some r) :
  Calls Try.prog 81 #[.int .i64 a0] w fun e w' => e = .returned (.bool r) ∧ Drawn0 w w' := by
 have H : (if a0 ≥ 1 then (some (decide (a0 ≤ 5))) else (some false)) = some r := h
 clear h
 by_cases c2 : a0 ≥ 1
 rotate_left
 ·
  rw [if_neg c2] at H
  have c2b0 : decide (1 ≤ a0) = false := decide_eq_false c2
  clear c2
  obtain rfl := oI H
  go_enter Try.func81, Try.ntmps81
  go_wp2
  go_ret
  exact ⟨by first | rfl | (simp; done) | (simp [*]; done), by repeat (first | exact Drawn0.refl _ | apply Drawn0.step)⟩
 rw [if_pos c2] at H
 have c2b0 : decide (1 ≤ a0) = true := decide_eq_true c2
 clear c2
 obtain rfl := oI H
 go_enter Try.func81, Try.ntmps81
 go_wp2
 go_ret
 exact ⟨by first | rfl | (simp; done) | (simp [*]; done), by repeat (first | exact Drawn0.refl _ | apply Drawn0.step)⟩
end Go.Proofs.Ytbpbniemjjhecaa.PChk
