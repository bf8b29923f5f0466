-- Written by a program of this session (prt.py), out of the translation. Lean checks it.
import Derived.Test.YtgjkjoocnkdckaaGreatDoorZPChk0
import Derived.Test.YtgjkjoocnkdckaaGreatDoorZPChk8
namespace Go.Proofs.YtgjkjoocnkdckaaGreatDoor.PChk
open Go.RowKit Go.Proofs.YtgjkjoocnkdckaaGreatDoor.G Go.Proofs.YtgjkjoocnkdckaaGreatDoorW.PrintWords Go.Proofs.YtgjkjoocnkdckaaGreatDoorW.PrintLast Go.Proofs.YtgjkjoocnkdckaaGreatDoorW.PrintMore
attribute [local go_sem] max2_int min2_int max_two min_two max_three min_three max_four min_four   -- for this text's walks alone
set_option linter.unusedVariables false
set_option linter.unusedSimpArgs false
mutual
def r8_Parse.l0 : Nat → ByteArray → List (S47) → Int → Int → Int → Option ((List (S47)) × Int × Int)
 | 0, _, _, _, _, _ => none
 | k + 1, x0, x5, x6, x7, x8 => if x8 ≤ (x0.size : Int) then (if x8 < (x0.size : Int) then (if 0 ≤ x8 then (r8_Parse.j1 k x0 x5 x6 x7 x8 ((bt x0 x8) != 10)) else (none)) else (r8_Parse.j1 k x0 x5 x6 x7 x8 false)) else (some (x5, 0, 0))
def r8_Parse.j1 : Nat → ByteArray → List (S47) → Int → Int → Int → Bool → Option ((List (S47)) × Int × Int)
 | 0, _, _, _, _, _, _ => none
 | k + 1, x0, x5, x6, x7, x8, x30 => if x30 = true then (r8_Parse.l0 k x0 x5 x6 x7 (wrap64 (x8 + 1))) else (if 0 ≤ x7 then (if x7 ≤ x8 then (if x8 ≤ (x0.size : Int) then (if (x0.extract (x7 : Int).toNat (x8 : Int).toNat).toList = ([] : List UInt8) then (r8_Parse.j2 k x0 x5 x6 x8 (x0.extract (x7 : Int).toNat (x8 : Int).toNat) false) else (if 0 < ((x0.extract (x7 : Int).toNat (x8 : Int).toNat).size : Int) then (r8_Parse.j2 k x0 x5 x6 x8 (x0.extract (x7 : Int).toNat (x8 : Int).toNat) ((bt (x0.extract (x7 : Int).toNat (x8 : Int).toNat) 0) != 35)) else (none))) else (none)) else (none)) else (none))
def r8_Parse.j2 : Nat → ByteArray → List (S47) → Int → Int → ByteArray → Bool → Option ((List (S47)) × Int × Int)
 | 0, _, _, _, _, _, _ => none
 | k + 1, x0, x5, x6, x8, x9, x41 => if x41 = true then ((r8_rule.f k x9 x6).bind fun bt219 => (if bt219.2.2.2.2.2 = true then (if (x5.length : Int) = 400 then (some (([] : List (S47)), x6, 4)) else (if x5.length < 2513169434916 then (r8_Parse.l0 k x0 (x5 ++ [(⟨bt219.1, bt219.2.1, bt219.2.2.1, bt219.2.2.2.1, bt219.2.2.2.2.1⟩ : S47)]) (wrap64 (x6 + 1)) (wrap64 (x8 + 1)) (wrap64 (x8 + 1))) else (none))) else (some (([] : List (S47)), x6, 6)))) else (r8_Parse.l0 k x0 x5 (wrap64 (x6 + 1)) (wrap64 (x8 + 1)) (wrap64 (x8 + 1)))
end
def r8_Parse.f (k : Nat) (a0 : ByteArray) : Option ((List (S47)) × Int × Int) := if (a0.size : Int) > 65536 then (some (([] : List (S47)), 0, 4)) else (r8_Parse.l0 k a0 ([] : List (S47)) 1 0 0)
theorem r8_Parse.mono_l : ∀ k, (∀ y0 y1 y2 y3 y4, LeO (r8_Parse.l0 k y0 y1 y2 y3 y4) (r8_Parse.l0 (k + 1) y0 y1 y2 y3 y4)) ∧ (∀ y0 y1 y2 y3 y4 y5, LeO (r8_Parse.j1 k y0 y1 y2 y3 y4 y5) (r8_Parse.j1 (k + 1) y0 y1 y2 y3 y4 y5)) ∧ (∀ y0 y1 y2 y3 y4 y5, LeO (r8_Parse.j2 k y0 y1 y2 y3 y4 y5) (r8_Parse.j2 (k + 1) y0 y1 y2 y3 y4 y5))
 | 0 => ⟨fun _ _ _ _ _ r h => by simp [r8_Parse.l0] at h, fun _ _ _ _ _ _ r h => by simp [r8_Parse.j1] at h, fun _ _ _ _ _ _ r h => by simp [r8_Parse.j2] at h⟩
 | k + 1 => by
  obtain ⟨ih0, ih1, ih2⟩ := r8_Parse.mono_l k
  refine ⟨?_, ?_, ?_⟩
  ·
   intro y0 y1 y2 y3 y4
   unfold r8_Parse.l0
   repeat' first
   | (with_reducible exact ih0 _ _ _ _ _)
   | (with_reducible exact ih1 _ _ _ _ _ _)
   | (with_reducible exact ih2 _ _ _ _ _ _)
   | (with_reducible exact r8_rule.mono _ _ _)
   | (with_reducible exact LeO.refl _)
   | (with_reducible exact LeO.none _)
   | (with_reducible refine LeO.ite ?_ ?_)
   | (with_reducible refine LeO.bind ?_ (fun _ => ?_))
   | exact ih0 _ _ _ _ _
   | exact ih1 _ _ _ _ _ _
   | exact ih2 _ _ _ _ _ _
   | exact r8_rule.mono _ _ _
   | exact LeO.none _
   | refine LeO.ite ?_ ?_
   | refine LeO.bind ?_ (fun _ => ?_)
  ·
   intro y0 y1 y2 y3 y4 y5
   unfold r8_Parse.j1
   repeat' first
   | (with_reducible exact ih0 _ _ _ _ _)
   | (with_reducible exact ih1 _ _ _ _ _ _)
   | (with_reducible exact ih2 _ _ _ _ _ _)
   | (with_reducible exact r8_rule.mono _ _ _)
   | (with_reducible exact LeO.refl _)
   | (with_reducible exact LeO.none _)
   | (with_reducible refine LeO.ite ?_ ?_)
   | (with_reducible refine LeO.bind ?_ (fun _ => ?_))
   | exact ih0 _ _ _ _ _
   | exact ih1 _ _ _ _ _ _
   | exact ih2 _ _ _ _ _ _
   | exact r8_rule.mono _ _ _
   | exact LeO.none _
   | refine LeO.ite ?_ ?_
   | refine LeO.bind ?_ (fun _ => ?_)
  ·
   intro y0 y1 y2 y3 y4 y5
   unfold r8_Parse.j2
   repeat' first
   | (with_reducible exact ih0 _ _ _ _ _)
   | (with_reducible exact ih1 _ _ _ _ _ _)
   | (with_reducible exact ih2 _ _ _ _ _ _)
   | (with_reducible exact r8_rule.mono _ _ _)
   | (with_reducible exact LeO.refl _)
   | (with_reducible exact LeO.none _)
   | (with_reducible refine LeO.ite ?_ ?_)
   | (with_reducible refine LeO.bind ?_ (fun _ => ?_))
   | exact ih0 _ _ _ _ _
   | exact ih1 _ _ _ _ _ _
   | exact ih2 _ _ _ _ _ _
   | exact r8_rule.mono _ _ _
   | exact LeO.none _
   | refine LeO.ite ?_ ?_
   | refine LeO.bind ?_ (fun _ => ?_)
theorem r8_Parse.mono : ∀ a0 k, LeO (r8_Parse.f k a0) (r8_Parse.f (k + 1) a0) := by
 intro a0 k
 obtain ⟨ih0, ih1, ih2⟩ := r8_Parse.mono_l k
 unfold r8_Parse.f
 repeat' first
   | (with_reducible exact ih0 _ _ _ _ _)
   | (with_reducible exact ih1 _ _ _ _ _ _)
   | (with_reducible exact ih2 _ _ _ _ _ _)
   | (with_reducible exact r8_rule.mono _ _ _)
   | (with_reducible exact LeO.refl _)
   | (with_reducible exact LeO.none _)
   | (with_reducible refine LeO.ite ?_ ?_)
   | (with_reducible refine LeO.bind ?_ (fun _ => ?_))
   | exact ih0 _ _ _ _ _
   | exact ih1 _ _ _ _ _ _
   | exact ih2 _ _ _ _ _ _
   | exact r8_rule.mono _ _ _
   | exact LeO.none _
   | refine LeO.ite ?_ ?_
   | refine LeO.bind ?_ (fun _ => ?_)
set_option maxHeartbeats 8000000 in
set_option maxRecDepth 100000 in
theorem r8_Parse.calls (k : Nat) (a0 : ByteArray) (r1 : List (S47)) (r2 : Int) (r3 : Int) (w : World) (h : r8_Parse.f k a0 = some (r1, r2, r3)) :
  Calls Tryz.prog 15 #[.string a0] w fun e w' => ∃ v0_ : Value, e = .returned (.tuple #[v0_, .int .i64 r2, .int .i64 r3]) ∧ Kd.R k47 47 w' w.heap.size (fun _ => True) v0_ r1 ∧ Below w.heap.size w w' := by
 have hu47 := Tryz.underlying47
 have HB := aK (Below.refl w.heap.size w)
 have H : (if (a0.size : Int) > 65536 then (some (([] : List (S47)), 0, 4)) else (r8_Parse.l0 k a0 ([] : List (S47)) 1 0 0)) = some (r1, r2, r3) := h
 clear h
 by_cases c2 : (a0.size : Int) > 65536
 ·
  rw [if_pos c2] at H
  have c2b0 : decide (65536 < (a0.size : Int)) = true := decide_eq_true c2
  have c2b1 : decide (65536 < a0.size) = true := decide_eq_true (by omega)
  clear c2
  simp only [Option.some.injEq, Prod.mk.injEq] at H
  obtain ⟨rfl, rfl, rfl⟩ := H
  go_enter Tryz.func15, Tryz.ntmps15
  go_wp2
  go_ret3
  exact ⟨_, by first | rfl | (simp [eWn, eWs] <;> rfl) | (simp [*, eWn, eWs] <;> rfl), by first | exact Kd.R_nil _ _ _ _ _ | exact Kd.N_nil _ _ _ _ _ | exact Kd.V_nil _ _ _ _ _ | exact Kd.Q_nil _ _ _ _ _ | exact Kd.S_nil _ _ _ _ _, by repeat (first | (with_reducible first | exact HB.out | apply bAl | apply pbD | apply bD1) | exact HB.out)⟩
 ·
  rw [if_neg c2] at H
  have c2b0 : decide (65536 < (a0.size : Int)) = false := decide_eq_false c2
  have c2b1 : decide (65536 < a0.size) = false := decide_eq_false (by omega)
  clear c2
  have H' := aK H
  clear H
  go_enter Tryz.func15, Tryz.ntmps15
  go_wp2
  go_loopg [5, 6, 7, 8] k (fun kq v5 v6 v7 v8 w' => ∃ (x5_1 : List (S47)) (x6_1 : Int) (x7_1 : Int) (x8_1 : Int), v6 = .int .i64 x6_1 ∧ v7 = .int .i64 x7_1 ∧ v8 = .int .i64 x8_1 ∧ Aside0 (r8_Parse.l0 kq a0 x5_1 x6_1 x7_1 x8_1 = some (r1, r2, r3)) ∧ Aside0 (kq ≤ k) ∧ Aside0 (Kd.R k47 47 w' w.heap.size (fun _ => True) v5 x5_1) ∧ Aside0 (Below w.heap.size w w'))
  case atStart => exact ⟨(([] : List (S47))), (1), (0), (0), (by first | rfl | (simp; done) | (simp [*]; done)), (by first | rfl | (simp; done) | (simp [*]; done)), (by first | rfl | (simp; done) | (simp [*]; done)), H', ⟨Nat.le_refl _⟩, ⟨by first | exact Kd.R_nil _ _ _ _ _ | exact Kd.N_nil _ _ _ _ _ | exact Kd.V_nil _ _ _ _ _ | exact Kd.Q_nil _ _ _ _ _ | exact Kd.S_nil _ _ _ _ _⟩, ⟨by repeat (first | (with_reducible first | exact HB.out | apply bAl | apply pbD | apply bD1) | exact HB.out)⟩⟩
  case round =>
   clear H'
   try clear c1
   try clear c2
   try clear c2b0
   try clear c2b1
   try clear p2
   obtain ⟨x5_1, x6_1, x7_1, x8_1, rfl, rfl, rfl, HA, HK1, HO_5, HB⟩ := hrel
   cases gk with
   | zero => exact absurd HA.out (by simp [r8_Parse.l0])
   | succ k1 =>
    have H := HA.out
    clear HA
    simp only [r8_Parse.l0] at H
    by_cases c3 : x8_1 ≤ (a0.size : Int)
    ·
     rw [if_pos c3] at H
     have c3b0 : decide (x8_1 ≤ (a0.size : Int)) = true := decide_eq_true c3
     clear c3
     have HC4 := aK H
     clear H
     go_upto_region 8 with (fail)
     go_cut [30] (fun v30 wc => ∃ (kq : Nat) (x30_3 : Bool), v30 = .bool x30_3 ∧ Aside0 (r8_Parse.j1 kq a0 x5_1 x6_1 x7_1 x8_1 x30_3 = some (r1, r2, r3)) ∧ Aside0 (kq ≤ k1) ∧ Aside0 (Kd.R k47 47 wc w.heap.size (fun _ => True) u5 x5_1) ∧ Aside0 (Below w.heap.size w wc))
     case first =>
      have H := HC4.out
      clear HC4
      by_cases c5 : x8_1 < (a0.size : Int)
      ·
       rw [if_pos c5] at H
       have c5b0 : decide (x8_1 < (a0.size : Int)) = true := decide_eq_true c5
       clear c5
       (first | rw [c5b0] | (simp only [i64_w, i32_w]; rw [c5b0]) | skip)
       by_cases c6 : 0 ≤ x8_1
       ·
        rw [if_pos c6] at H
        have c6b0 : decide (0 ≤ x8_1) = true := decide_eq_true c6
        clear c6
        have H' := aK H
        clear H
        have p7 : 0 ≤ (x8_1 : Int) := odT (by first | (with_reducible assumption) | assumption)
        have q7 : x8_1 < (a0.size : Int) := odT (by first | (with_reducible assumption) | assumption)
        have hx7 := bt_at a0 x8_1
        replace p7 := eq_true p7
        replace q7 := eq_true q7
        go_wp2
        go_meet
        case rel => exact ⟨_, (((bt a0 x8_1) != 10)), (by first | rfl | (simp; done) | (simp [*]; done)), H', ⟨by have := HK1.out; first | omega | exact Nat.le_refl _⟩, ⟨by (with_reducible repeat (first | apply Kd.R_alloc | apply Kd.R_drewN | apply Kd.R_drew)); exact HO_5.out⟩, ⟨by repeat (first | (with_reducible first | exact HB.out | apply bAl | apply pbD | apply bD1) | exact HB.out)⟩⟩
       ·
        rw [if_neg c6] at H
        exact absurd H (by simp)
      ·
       rw [if_neg c5] at H
       have c5b0 : decide (x8_1 < (a0.size : Int)) = false := decide_eq_false c5
       clear c5
       (first | rw [c5b0] | (simp only [i64_w, i32_w]; rw [c5b0]) | skip)
       have H' := aK H
       clear H
       go_wp2
       go_meet
       case rel => exact ⟨_, (false), (by first | rfl | (simp; done) | (simp [*]; done)), H', ⟨by have := HK1.out; first | omega | exact Nat.le_refl _⟩, ⟨by (with_reducible repeat (first | apply Kd.R_alloc | apply Kd.R_drewN | apply Kd.R_drew)); exact HO_5.out⟩, ⟨by repeat (first | (with_reducible first | exact HB.out | apply bAl | apply pbD | apply bD1) | exact HB.out)⟩⟩
     case rest =>
      clear HC4
      try clear c1
      try clear c2
      try clear c2b0
      try clear c2b1
      try clear p2
      try clear c3
      try clear c3b0
      try clear c5
      try clear c5b0
      try clear c6
      try clear c6b0
      try clear p7
      try clear q7
      try clear hx7
      try clear p2
      try clear p7
      try clear q7
      obtain ⟨kq, x30_3, rfl, HA, HJ3, HO_5, HB⟩ := hcut
      cases kq with
      | zero => exact absurd HA.out (by simp [r8_Parse.j1])
      | succ kj3 =>
       have H := HA.out
       clear HA
       simp only [r8_Parse.j1] at H
       by_cases c8 : x30_3 = true
       ·
        subst c8
        have H1 : (r8_Parse.l0 kj3 a0 x5_1 x6_1 x7_1 (wrap64 (x8_1 + 1))) = some (r1, r2, r3) := by rw [if_pos rfl] at H; exact H
        clear H
        have H := H1
        clear H1
        have H' := aK H
        clear H
        go_wp2
        go_roundg kj3
        case measure => have := HK1.out; have := HJ3.out; omega
        case rel => exact ⟨(x5_1), (x6_1), (x7_1), (wrap64 (x8_1 + 1)), (by first | rfl | (simp; done) | (simp [*]; done)), (by first | rfl | (simp; done) | (simp [*]; done)), (by first | rfl | (simp; done) | (simp [*]; done)), H', ⟨by have := HK1.out; have := HJ3.out; omega⟩, ⟨by (with_reducible repeat (first | apply Kd.R_alloc | apply Kd.R_drewN | apply Kd.R_drew)); exact HO_5.out⟩, ⟨by repeat (first | (with_reducible first | exact HB.out | apply bAl | apply pbD | apply bD1) | exact HB.out)⟩⟩
       ·
        replace c8 := Bool.eq_false_iff.mpr c8
        subst c8
        have H1 : (if 0 ≤ x7_1 then (if x7_1 ≤ x8_1 then (if x8_1 ≤ (a0.size : Int) then (if (a0.extract (x7_1 : Int).toNat (x8_1 : Int).toNat).toList = ([] : List UInt8) then (r8_Parse.j2 kj3 a0 x5_1 x6_1 x8_1 (a0.extract (x7_1 : Int).toNat (x8_1 : Int).toNat) false) else (if 0 < ((a0.extract (x7_1 : Int).toNat (x8_1 : Int).toNat).size : Int) then (r8_Parse.j2 kj3 a0 x5_1 x6_1 x8_1 (a0.extract (x7_1 : Int).toNat (x8_1 : Int).toNat) ((bt (a0.extract (x7_1 : Int).toNat (x8_1 : Int).toNat) 0) != 35)) else (none))) else (none)) else (none)) else (none)) = some (r1, r2, r3) := by rw [if_neg (show ¬ (false = true) by decide)] at H; exact H
        clear H
        have H := H1
        clear H1
        by_cases c9 : 0 ≤ x7_1
        ·
         rw [if_pos c9] at H
         have c9b0 := eq_true c9
         have c9b1 : decide (0 ≤ x7_1) = true := decide_eq_true c9
         clear c9
         by_cases c10 : x7_1 ≤ x8_1
         ·
          rw [if_pos c10] at H
          have c10b0 := eq_true c10
          have c10b1 : decide (x7_1 ≤ x8_1) = true := decide_eq_true c10
          clear c10
          by_cases c11 : x8_1 ≤ (a0.size : Int)
          ·
           rw [if_pos c11] at H
           have c11b0 := eq_true c11
           have c11b1 : decide (x8_1 ≤ (a0.size : Int)) = true := decide_eq_true c11
           clear c11
           have HC12 := aK H
           clear H
           go_upto_region 10 with (fail)
           go_cut [41] (fun v41 wc => ∃ (kq : Nat) (x41_11 : Bool), v41 = .bool x41_11 ∧ Aside0 (r8_Parse.j2 kq a0 x5_1 x6_1 x8_1 (a0.extract (x7_1 : Int).toNat (x8_1 : Int).toNat) x41_11 = some (r1, r2, r3)) ∧ Aside0 (kq ≤ kj3) ∧ Aside0 (Kd.R k47 47 wc w.heap.size (fun _ => True) u5 x5_1) ∧ Aside0 (Below w.heap.size w wc))
           case first =>
            have H := HC12.out
            clear HC12
            by_cases c13 : (a0.extract (x7_1 : Int).toNat (x8_1 : Int).toNat).toList = ([] : List UInt8)
            ·
             rw [if_pos c13] at H
             have c13b0 : ((a0.extract (x7_1 : Int).toNat (x8_1 : Int).toNat).toList == ([] : List UInt8)) = true := beq_iff_eq.mpr c13
             have c13b1 : ((a0.extract (x7_1 : Int).toNat (x8_1 : Int).toNat).toList != ([] : List UInt8)) = false := bne_eq_false_iff_eq.mpr c13
             clear c13
             (first | rw [c13b0] | (simp only [i64_w, i32_w]; rw [c13b0]) | skip)
             have H' := aK H
             clear H
             go_wp2
             go_meet
             case rel => exact ⟨_, (false), (by first | rfl | (simp; done) | (simp [*]; done)), H', ⟨by have := HK1.out; have := HJ3.out; first | omega | exact Nat.le_refl _⟩, ⟨by (with_reducible repeat (first | apply Kd.R_alloc | apply Kd.R_drewN | apply Kd.R_drew)); exact HO_5.out⟩, ⟨by repeat (first | (with_reducible first | exact HB.out | apply bAl | apply pbD | apply bD1) | exact HB.out)⟩⟩
            ·
             rw [if_neg c13] at H
             have c13b0 : ((a0.extract (x7_1 : Int).toNat (x8_1 : Int).toNat).toList == ([] : List UInt8)) = false := beq_eq_false_iff_ne.mpr c13
             have c13b1 : ((a0.extract (x7_1 : Int).toNat (x8_1 : Int).toNat).toList != ([] : List UInt8)) = true := bne_iff_ne.mpr c13
             (first | rw [c13b0] | (simp only [i64_w, i32_w]; rw [c13b0]) | skip)
             by_cases c14 : 0 < ((a0.extract (x7_1 : Int).toNat (x8_1 : Int).toNat).size : Int)
             ·
              rw [if_pos c14] at H
              have c14b0 : decide (0 < ((a0.extract (x7_1 : Int).toNat (x8_1 : Int).toNat).size : Int)) = true := decide_eq_true c14
              have c14b1 : decide (0 < (a0.extract (x7_1 : Int).toNat (x8_1 : Int).toNat).size) = true := decide_eq_true (by omega)
              clear c14
              have H' := aK H
              clear H
              have p15 : 0 ≤ (0 : Int) := (by omega)
              have q15 : 0 < (a0.extract (x7_1 : Int).toNat (x8_1 : Int).toNat).size := (by have : (0 : Int) < ((a0.extract (x7_1 : Int).toNat (x8_1 : Int).toNat).size : Int) := odT (by first | (with_reducible assumption) | assumption); omega)
              have hx15 : ∀ h : 0 < (a0.extract (x7_1 : Int).toNat (x8_1 : Int).toNat).size, (((a0.extract (x7_1 : Int).toNat (x8_1 : Int).toNat)[0]'h).toNat : Int) = bt (a0.extract (x7_1 : Int).toNat (x8_1 : Int).toNat) 0 := bt_at (a0.extract (x7_1 : Int).toNat (x8_1 : Int).toNat) 0
              clear p15
              have qi15 : (0 < ((a0.extract (x7_1 : Int).toNat (x8_1 : Int).toNat).size : Int)) = True := eq_true (odT (by first | (with_reducible assumption) | assumption))
              have q15j : (0 < x8_1.toNat - x7_1.toNat) = True := eq_true (by have h_ := q15; rw [ByteArray.size_extract] at h_; omega)
              replace q15 := eq_true q15
              go_wp2
              go_meet
              case rel => exact ⟨_, (((bt (a0.extract (x7_1 : Int).toNat (x8_1 : Int).toNat) 0) != 35)), (by first | rfl | (simp; done) | (simp [*]; done)), H', ⟨by have := HK1.out; have := HJ3.out; first | omega | exact Nat.le_refl _⟩, ⟨by (with_reducible repeat (first | apply Kd.R_alloc | apply Kd.R_drewN | apply Kd.R_drew)); exact HO_5.out⟩, ⟨by repeat (first | (with_reducible first | exact HB.out | apply bAl | apply pbD | apply bD1) | exact HB.out)⟩⟩
             ·
              rw [if_neg c14] at H
              exact absurd H (by simp)
           case rest =>
            clear HC12
            try clear c1
            try clear p1
            try clear q1
            try clear hx1
            try clear qi1
            try clear c2
            try clear c2b0
            try clear c2b1
            try clear p2
            try clear c3
            try clear c3b0
            try clear c5
            try clear c5b0
            try clear c6
            try clear c6b0
            try clear p6
            try clear p7
            try clear q7
            try clear hx7
            try clear c8
            try clear c9
            try clear c9b0
            try clear c9b1
            try clear c10
            try clear c10b0
            try clear c10b1
            try clear c11
            try clear c11b0
            try clear c11b1
            try clear c13
            try clear c13b0
            try clear c13b1
            try clear c14
            try clear c14b0
            try clear c14b1
            try clear c15
            try clear p15
            try clear q15
            try clear hx15
            try clear qi15
            try clear p15
            try clear p2
            try clear p7
            try clear q15
            try clear q7
            obtain ⟨kq, x41_11, rfl, HA, HJ11, HO_5, HB⟩ := hcut
            cases kq with
            | zero => exact absurd HA.out (by simp [r8_Parse.j2])
            | succ kj11 =>
             have H := HA.out
             clear HA
             simp only [r8_Parse.j2] at H
             by_cases c16 : x41_11 = true
             ·
              subst c16
              have H1 : ((r8_rule.f kj11 (a0.extract (x7_1 : Int).toNat (x8_1 : Int).toNat) x6_1).bind fun bt219 => (if bt219.2.2.2.2.2 = true then (if (x5_1.length : Int) = 400 then (some (([] : List (S47)), x6_1, 4)) else (if x5_1.length < 2513169434916 then (r8_Parse.l0 kj11 a0 (x5_1 ++ [(⟨bt219.1, bt219.2.1, bt219.2.2.1, bt219.2.2.2.1, bt219.2.2.2.2.1⟩ : S47)]) (wrap64 (x6_1 + 1)) (wrap64 (x8_1 + 1)) (wrap64 (x8_1 + 1))) else (none))) else (some (([] : List (S47)), x6_1, 6)))) = some (r1, r2, r3) := by rw [if_pos rfl] at H; exact H
              clear H
              have H := H1
              clear H1
              replace H := oB H
              obtain ⟨⟨t219, t220, t221, t222, t223, t224⟩, A170, H⟩ := H
              try dsimp only at H
              have A17 := aK A170
              clear A170
              by_cases c18 : t224 = true
              ·
               subst c18
               have H1 : (if (x5_1.length : Int) = 400 then (some (([] : List (S47)), x6_1, 4)) else (if x5_1.length < 2513169434916 then (r8_Parse.l0 kj11 a0 (x5_1 ++ [(⟨t219, t220, t221, t222, t223⟩ : S47)]) (wrap64 (x6_1 + 1)) (wrap64 (x8_1 + 1)) (wrap64 (x8_1 + 1))) else (none))) = some (r1, r2, r3) := by rw [if_pos rfl] at H; exact H
               clear H
               have H := H1
               clear H1
               by_cases c19 : (x5_1.length : Int) = 400
               ·
                rw [if_pos c19] at H
                have c19b0 : ((x5_1.length : Int) == 400) = true := beq_iff_eq.mpr c19
                have c19b1 : ((x5_1.length : Int) != 400) = false := bne_eq_false_iff_eq.mpr c19
                clear c19
                simp only [Option.some.injEq, Prod.mk.injEq] at H
                obtain ⟨rfl, rfl, rfl⟩ := H
                go_wp2_with (first | ((with_reducible refine gate_callee (f := 45) rfl ?_); refine goesL_ (some 45) rfl rfl Tryz.func45 (by kernel_rfl) rfl #[.string (a0.extract (x7_1 : Int).toNat (x8_1 : Int).toNat), .int .i64 x6_1] rfl (by (try simp only [qM0, qM1, qM2]); first | done | rfl | (simp only [qD0, qD1]; rfl)) ?_; (with_reducible refine (r8_rule.calls kj11 (a0.extract (x7_1 : Int).toNat (x8_1 : Int).toNat) x6_1 t219 t220 t221 t222 t223 true _ A17.out).mono ?_); rintro e w20 ⟨rfl, hb⟩; refine ⟨_, rfl, ?_⟩; have n0_ := aK (Kd.R_below (by (with_reducible repeat (first | apply Kd.R_alloc | apply Kd.R_drewN | apply Kd.R_drew)); exact HO_5.out) hb); have n1_ := aK (bSp (by repeat (first | (with_reducible first | exact HB.out | apply bAl | apply pbD | apply bD1) | exact HB.out)) hb); clear HO_5; clear HB; have HO_5 := n0_; have HB := n1_; clear n0_ n1_; (try clear hb); (try clear hb2); (try clear hk); (try clear hi)) | ((with_reducible refine gate_dst (N := 10) rfl ?_); refine box_event ?hg (N := 10) ?hd (cs := #[.int .i64 0, .string (⟨#[]⟩ : ByteArray), .string (⟨#[]⟩ : ByteArray), .int .i64 0, .int .i64 0]) (t := 47) ?hr ?_; (case hd => rfl); (case hg => rfl); (case hr => first | (go_simp; done) | (go_simp; rfl)); intro gb225 hg w21 hbox hb; have n0_ := aK (Kd.R_below (Kd.R_elderB (by (with_reducible repeat (first | apply Kd.R_alloc | apply Kd.R_drewN | apply Kd.R_drew)); exact HO_5.out) gb225 (Nat.le_of_eq hg.symm)) hb); have n1_ := aK (bSp (by repeat (first | (with_reducible first | exact HB.out | apply bAl | apply pbD | apply bD1) | exact HB.out)) hb); have n2_ := aK (hbox); have n3_ := aK ((by rw [hg]; exact (bSz (by repeat (first | (with_reducible first | exact HB.out | apply bAl | apply pbD | apply bD1) | exact HB.out))) : w.heap.size ≤ gb225)); have n4_ := aK ((by rw [hg]; exact (bSz (by repeat (first | (with_reducible first | exact HB.out | apply bAl | apply pbD | apply bD1) | exact HB.out))) : w.heap.size ≤ gb225)); clear HO_5; clear HB; have HO_5 := n0_; have HB := n1_; have BK225 := n2_; have GW225 := n3_; have GE225 := n4_; clear n0_ n1_ n2_ n3_ n4_; clear hb hbox hg; have hcz22_0 : w21.cell? ⟨gb225, 0, none⟩ = some (.int .i64 0) := (kCe BK225.out 0).trans rfl; have hcz22_1 : w21.cell? ⟨gb225, 1, none⟩ = some (.string (⟨#[]⟩ : ByteArray)) := (kCe BK225.out 1).trans rfl; have hcz22_2 : w21.cell? ⟨gb225, 2, none⟩ = some (.string (⟨#[]⟩ : ByteArray)) := (kCe BK225.out 2).trans rfl; have hcz22_3 : w21.cell? ⟨gb225, 3, none⟩ = some (.int .i64 0) := (kCe BK225.out 3).trans rfl; have hcz22_4 : w21.cell? ⟨gb225, 4, none⟩ = some (.int .i64 0) := (kCe BK225.out 4).trans rfl; have hfz22_0 := bFz BK225.out 0; have hfz22_1 := bFz BK225.out 1; have hfz22_2 := bFz BK225.out 2; have hfz22_3 := bFz BK225.out 3; have hfz22_4 := bFz BK225.out 4; obtain ⟨Ao23, co23, eo23⟩ := Kd.R_slice HO_5.out; subst eo23))
                go_ret3
                exact ⟨_, by first | rfl | (simp [eWn, eWs] <;> rfl) | (simp [*, eWn, eWs] <;> rfl), by first | exact Kd.R_nil _ _ _ _ _ | exact Kd.N_nil _ _ _ _ _ | exact Kd.V_nil _ _ _ _ _ | exact Kd.Q_nil _ _ _ _ _ | exact Kd.S_nil _ _ _ _ _, by repeat (first | (with_reducible first | exact HB.out | apply bAl | apply pbD | apply bD1 | refine bSt ?_ GE225.out) | exact HB.out)⟩
               ·
                rw [if_neg c19] at H
                have c19b0 : ((x5_1.length : Int) == 400) = false := beq_eq_false_iff_ne.mpr c19
                have c19b1 : ((x5_1.length : Int) != 400) = true := bne_iff_ne.mpr c19
                by_cases c24 : x5_1.length < 2513169434916
                ·
                 rw [if_pos c24] at H
                 have LMc24 := aK c24
                 clear c24
                 obtain ⟨y226, hy226⟩ : ∃ y_ : List (S47), y_ = (x5_1 ++ [(⟨t219, t220, t221, t222, t223⟩ : S47)]) := ⟨_, rfl⟩
                 replace H : (r8_Parse.l0 kj11 a0 y226 (wrap64 (x6_1 + 1)) (wrap64 (x8_1 + 1)) (wrap64 (x8_1 + 1))) = some (r1, r2, r3) := by first | (rw [hy226]; with_reducible exact H) | (have H2_ := (Option.bind_some _ _).symm.trans H; rw [hy226]; with_reducible exact H2_) | (have H2_ := (Option.bind_some _ _).symm.trans H; with_reducible exact H2_) | with_reducible exact H | (rw [hy226]; exact H) | exact H
                 have Ny226 := aK hy226
                 clear hy226
                 have H' := aK H
                 clear H
                 go_wp2_with (first | ((with_reducible refine gate_callee (f := 45) rfl ?_); refine goesL_ (some 45) rfl rfl Tryz.func45 (by kernel_rfl) rfl #[.string (a0.extract (x7_1 : Int).toNat (x8_1 : Int).toNat), .int .i64 x6_1] rfl (by (try simp only [qM0, qM1, qM2]); first | done | rfl | (simp only [qD0, qD1]; rfl)) ?_; (with_reducible refine (r8_rule.calls kj11 (a0.extract (x7_1 : Int).toNat (x8_1 : Int).toNat) x6_1 t219 t220 t221 t222 t223 true _ A17.out).mono ?_); rintro e w25 ⟨rfl, hb⟩; refine ⟨_, rfl, ?_⟩; have n0_ := aK (Kd.R_below (by (with_reducible repeat (first | apply Kd.R_alloc | apply Kd.R_drewN | apply Kd.R_drew)); exact HO_5.out) hb); have n1_ := aK (bSp (by repeat (first | (with_reducible first | exact HB.out | apply bAl | apply pbD | apply bD1) | exact HB.out)) hb); clear HO_5; clear HB; have HO_5 := n0_; have HB := n1_; clear n0_ n1_; (try clear hb); (try clear hb2); (try clear hk); (try clear hi)) | ((with_reducible refine gate_dst (N := 10) rfl ?_); refine box_event ?hg (N := 10) ?hd (cs := #[.int .i64 0, .string (⟨#[]⟩ : ByteArray), .string (⟨#[]⟩ : ByteArray), .int .i64 0, .int .i64 0]) (t := 47) ?hr ?_; (case hd => rfl); (case hg => rfl); (case hr => first | (go_simp; done) | (go_simp; rfl)); intro gb225 hg w26 hbox hb; have n0_ := aK (Kd.R_below (Kd.R_elderB (by (with_reducible repeat (first | apply Kd.R_alloc | apply Kd.R_drewN | apply Kd.R_drew)); exact HO_5.out) gb225 (Nat.le_of_eq hg.symm)) hb); have n1_ := aK (bSp (by repeat (first | (with_reducible first | exact HB.out | apply bAl | apply pbD | apply bD1) | exact HB.out)) hb); have n2_ := aK (hbox); have n3_ := aK ((by rw [hg]; exact (bSz (by repeat (first | (with_reducible first | exact HB.out | apply bAl | apply pbD | apply bD1) | exact HB.out))) : w.heap.size ≤ gb225)); have n4_ := aK ((by rw [hg]; exact (bSz (by repeat (first | (with_reducible first | exact HB.out | apply bAl | apply pbD | apply bD1) | exact HB.out))) : w.heap.size ≤ gb225)); clear HO_5; clear HB; have HO_5 := n0_; have HB := n1_; have BK225 := n2_; have GW225 := n3_; have GE225 := n4_; clear n0_ n1_ n2_ n3_ n4_; clear hb hbox hg; have hcz27_0 : w26.cell? ⟨gb225, 0, none⟩ = some (.int .i64 0) := (kCe BK225.out 0).trans rfl; have hcz27_1 : w26.cell? ⟨gb225, 1, none⟩ = some (.string (⟨#[]⟩ : ByteArray)) := (kCe BK225.out 1).trans rfl; have hcz27_2 : w26.cell? ⟨gb225, 2, none⟩ = some (.string (⟨#[]⟩ : ByteArray)) := (kCe BK225.out 2).trans rfl; have hcz27_3 : w26.cell? ⟨gb225, 3, none⟩ = some (.int .i64 0) := (kCe BK225.out 3).trans rfl; have hcz27_4 : w26.cell? ⟨gb225, 4, none⟩ = some (.int .i64 0) := (kCe BK225.out 4).trans rfl; have hfz27_0 := bFz BK225.out 0; have hfz27_1 := bFz BK225.out 1; have hfz27_2 := bFz BK225.out 2; have hfz27_3 := bFz BK225.out 3; have hfz27_4 := bFz BK225.out 4; obtain ⟨Ao28, co28, eo28⟩ := Kd.R_slice HO_5.out; subst eo28) | ((with_reducible refine gate_builtin (b := .append) (xs := #[.tmp 55, .tmp 57]) rfl ?_); at_builtin; refine Kd.R_append k47 (w0 := w) w.heap.size rfl (.tmp 55) (.tmp 57) 36 47 (.agg #[(.int .i64 0), (.string ⟨#[]⟩), (.string ⟨#[]⟩), (.int .i64 0), (.int .i64 0)]) 56 rfl Tryz.underlying36 info47 rfl (by decide) (by omega) (.slice Ao28 x5_1.length co28) x5_1 (⟨t219, t220, t221, t222, t223⟩ : S47) [.int .i64 t219, .string t220, .string t221, .int .i64 t222, .int .i64 t223] (fun k_ => k_ ≠ gb225) (fun _ => False) rfl (by first | (go_simp; done) | (go_simp; rfl)) ?aP (fun _ hk => hk.elim) ?aF ?aO ?aB ?aS ?aL ?_; (case aP => exact k47_mkM _ _ _ (⟨t219, t220, t221, t222, t223⟩ : S47)); (case aB => exact (by repeat (first | (with_reducible first | exact HB.out | apply bAl | apply pbD | apply bD1 | refine bSt ?_ GE225.out) | exact HB.out))); (case aF => exact (fun k_ hk => Kd.freshB (g := gb225) (o := .cells #[.int .i64 t219, .string t220, .string t221, .int .i64 t222, .int .i64 t223] 47 (0, 0)) (by (with_reducible repeat (first | refine kDN ?_ _ | refine kDr ?_ | refine kAl ?_ _)); refine blk_put (cs := #[.int .i64 t219, .string t220, .string t221, .int .i64 t222, .int .i64 0]) ?_ 4 _ rfl; (with_reducible repeat (first | refine kDN ?_ _ | refine kDr ?_ | refine kAl ?_ _)); refine blk_put (cs := #[.int .i64 t219, .string t220, .string t221, .int .i64 0, .int .i64 0]) ?_ 3 _ rfl; (with_reducible repeat (first | refine kDN ?_ _ | refine kDr ?_ | refine kAl ?_ _)); refine blk_put (cs := #[.int .i64 t219, .string t220, .string (⟨#[]⟩ : ByteArray), .int .i64 0, .int .i64 0]) ?_ 2 _ rfl; (with_reducible repeat (first | refine kDN ?_ _ | refine kDr ?_ | refine kAl ?_ _)); refine blk_put (cs := #[.int .i64 t219, .string (⟨#[]⟩ : ByteArray), .string (⟨#[]⟩ : ByteArray), .int .i64 0, .int .i64 0]) ?_ 1 _ rfl; (with_reducible repeat (first | refine kDN ?_ _ | refine kDr ?_ | refine kAl ?_ _)); refine blk_put (cs := #[.int .i64 0, .string (⟨#[]⟩ : ByteArray), .string (⟨#[]⟩ : ByteArray), .int .i64 0, .int .i64 0]) ?_ 0 _ rfl; (with_reducible repeat (first | refine kDN ?_ _ | refine kDr ?_ | refine kAl ?_ _)); exact BK225.out) k_ hk)); (case aO => exact (by (with_reducible repeat (first | apply Kd.R_alloc | apply Kd.R_drewN | apply Kd.R_drew)); exact Kd.R_mono (Kd.R_far (p := ⟨gb225, 4, none⟩) (Kd.R_far (p := ⟨gb225, 3, none⟩) (Kd.R_far (p := ⟨gb225, 2, none⟩) (Kd.R_far (p := ⟨gb225, 1, none⟩) (Kd.R_far (p := ⟨gb225, 0, none⟩) (Kd.R_mono HO_5.out (fun k_ hk => (⟨hk, hk.2⟩ : _ ∧ k_ ≠ gb225))) (fun _ hk => hk.2) (.int .i64 t219)) (fun _ hk => hk.2) (.string t220)) (fun _ hk => hk.2) (.string t221)) (fun _ hk => hk.2) (.int .i64 t222)) (fun _ hk => hk.2) (.int .i64 t223)) (fun _ hk => hk.1.2))); (case aS => exact (bSz (by repeat (first | (with_reducible first | exact HB.out | apply bAl | apply pbD | apply bD1 | refine bSt ?_ GE225.out) | exact HB.out)))); (case aL => have := LMc24.out; omega); intro v227 w29 ho hb hg hat; rw [← Ny226.out] at ho; have n0_ := aK (blk_grown (g := gb225) (o := .cells #[.int .i64 t219, .string t220, .string t221, .int .i64 t222, .int .i64 t223] 47 (0, 0)) (by (with_reducible repeat (first | refine kDN ?_ _ | refine kDr ?_ | refine kAl ?_ _)); refine blk_put (cs := #[.int .i64 t219, .string t220, .string t221, .int .i64 t222, .int .i64 0]) ?_ 4 _ rfl; (with_reducible repeat (first | refine kDN ?_ _ | refine kDr ?_ | refine kAl ?_ _)); refine blk_put (cs := #[.int .i64 t219, .string t220, .string t221, .int .i64 0, .int .i64 0]) ?_ 3 _ rfl; (with_reducible repeat (first | refine kDN ?_ _ | refine kDr ?_ | refine kAl ?_ _)); refine blk_put (cs := #[.int .i64 t219, .string t220, .string (⟨#[]⟩ : ByteArray), .int .i64 0, .int .i64 0]) ?_ 2 _ rfl; (with_reducible repeat (first | refine kDN ?_ _ | refine kDr ?_ | refine kAl ?_ _)); refine blk_put (cs := #[.int .i64 t219, .string (⟨#[]⟩ : ByteArray), .string (⟨#[]⟩ : ByteArray), .int .i64 0, .int .i64 0]) ?_ 1 _ rfl; (with_reducible repeat (first | refine kDN ?_ _ | refine kDr ?_ | refine kAl ?_ _)); refine blk_put (cs := #[.int .i64 0, .string (⟨#[]⟩ : ByteArray), .string (⟨#[]⟩ : ByteArray), .int .i64 0, .int .i64 0]) ?_ 0 _ rfl; (with_reducible repeat (first | refine kDN ?_ _ | refine kDr ?_ | refine kAl ?_ _)); exact BK225.out) hg (Kd.R_away HO_5.out (fun _ hk => hk.2))); have n1_ := aK (hb); have n2_ := aK (ho); clear BK225; clear HB; clear HO_5; have BK225 := n0_; have HB := n1_; have HO228 := n2_; clear n0_ n1_ n2_; clear ho hb hg hat))
                 go_roundg kj11
                 case measure => have := HK1.out; have := HJ3.out; have := HJ11.out; omega
                 case rel => exact ⟨(y226), (wrap64 (x6_1 + 1)), (wrap64 (x8_1 + 1)), (wrap64 (x8_1 + 1)), (by first | rfl | (simp; done) | (simp [*]; done)), (by first | rfl | (simp; done) | (simp [*]; done)), (by first | rfl | (simp; done) | (simp [*]; done)), H', ⟨by have := HK1.out; have := HJ3.out; have := HJ11.out; omega⟩, ⟨by (with_reducible repeat (first | apply Kd.R_alloc | apply Kd.R_drewN | apply Kd.R_drew)); exact Kd.R_mono HO228.out (fun _ hk => trivial)⟩, ⟨by repeat (first | (with_reducible first | exact HB.out | apply bAl | apply pbD | apply bD1 | refine bSt ?_ GE225.out) | exact HB.out)⟩⟩
                ·
                 rw [if_neg c24] at H
                 exact absurd H (by simp)
              ·
               replace c18 := Bool.eq_false_iff.mpr c18
               subst c18
               have H1 : (some (([] : List (S47)), x6_1, 6)) = some (r1, r2, r3) := by rw [if_neg (show ¬ (false = true) by decide)] at H; exact H
               clear H
               have H := H1
               clear H1
               simp only [Option.some.injEq, Prod.mk.injEq] at H
               obtain ⟨rfl, rfl, rfl⟩ := H
               go_wp2_with (first | ((with_reducible refine gate_callee (f := 45) rfl ?_); refine goesL_ (some 45) rfl rfl Tryz.func45 (by kernel_rfl) rfl #[.string (a0.extract (x7_1 : Int).toNat (x8_1 : Int).toNat), .int .i64 x6_1] rfl (by (try simp only [qM0, qM1, qM2]); first | done | rfl | (simp only [qD0, qD1]; rfl)) ?_; (with_reducible refine (r8_rule.calls kj11 (a0.extract (x7_1 : Int).toNat (x8_1 : Int).toNat) x6_1 t219 t220 t221 t222 t223 false _ A17.out).mono ?_); rintro e w30 ⟨rfl, hb⟩; refine ⟨_, rfl, ?_⟩; have n0_ := aK (Kd.R_below (by (with_reducible repeat (first | apply Kd.R_alloc | apply Kd.R_drewN | apply Kd.R_drew)); exact HO_5.out) hb); have n1_ := aK (bSp (by repeat (first | (with_reducible first | exact HB.out | apply bAl | apply pbD | apply bD1) | exact HB.out)) hb); clear HO_5; clear HB; have HO_5 := n0_; have HB := n1_; clear n0_ n1_; (try clear hb); (try clear hb2); (try clear hk); (try clear hi)) | ((with_reducible refine gate_dst (N := 10) rfl ?_); refine box_event ?hg (N := 10) ?hd (cs := #[.int .i64 0, .string (⟨#[]⟩ : ByteArray), .string (⟨#[]⟩ : ByteArray), .int .i64 0, .int .i64 0]) (t := 47) ?hr ?_; (case hd => rfl); (case hg => rfl); (case hr => first | (go_simp; done) | (go_simp; rfl)); intro gb225 hg w31 hbox hb; have n0_ := aK (Kd.R_below (Kd.R_elderB (by (with_reducible repeat (first | apply Kd.R_alloc | apply Kd.R_drewN | apply Kd.R_drew)); exact HO_5.out) gb225 (Nat.le_of_eq hg.symm)) hb); have n1_ := aK (bSp (by repeat (first | (with_reducible first | exact HB.out | apply bAl | apply pbD | apply bD1) | exact HB.out)) hb); have n2_ := aK (hbox); have n3_ := aK ((by rw [hg]; exact (bSz (by repeat (first | (with_reducible first | exact HB.out | apply bAl | apply pbD | apply bD1) | exact HB.out))) : w.heap.size ≤ gb225)); have n4_ := aK ((by rw [hg]; exact (bSz (by repeat (first | (with_reducible first | exact HB.out | apply bAl | apply pbD | apply bD1) | exact HB.out))) : w.heap.size ≤ gb225)); clear HO_5; clear HB; have HO_5 := n0_; have HB := n1_; have BK225 := n2_; have GW225 := n3_; have GE225 := n4_; clear n0_ n1_ n2_ n3_ n4_; clear hb hbox hg; have hcz32_0 : w31.cell? ⟨gb225, 0, none⟩ = some (.int .i64 0) := (kCe BK225.out 0).trans rfl; have hcz32_1 : w31.cell? ⟨gb225, 1, none⟩ = some (.string (⟨#[]⟩ : ByteArray)) := (kCe BK225.out 1).trans rfl; have hcz32_2 : w31.cell? ⟨gb225, 2, none⟩ = some (.string (⟨#[]⟩ : ByteArray)) := (kCe BK225.out 2).trans rfl; have hcz32_3 : w31.cell? ⟨gb225, 3, none⟩ = some (.int .i64 0) := (kCe BK225.out 3).trans rfl; have hcz32_4 : w31.cell? ⟨gb225, 4, none⟩ = some (.int .i64 0) := (kCe BK225.out 4).trans rfl; have hfz32_0 := bFz BK225.out 0; have hfz32_1 := bFz BK225.out 1; have hfz32_2 := bFz BK225.out 2; have hfz32_3 := bFz BK225.out 3; have hfz32_4 := bFz BK225.out 4))
               go_ret3
               exact ⟨_, by first | rfl | (simp [eWn, eWs] <;> rfl) | (simp [*, eWn, eWs] <;> rfl), by first | exact Kd.R_nil _ _ _ _ _ | exact Kd.N_nil _ _ _ _ _ | exact Kd.V_nil _ _ _ _ _ | exact Kd.Q_nil _ _ _ _ _ | exact Kd.S_nil _ _ _ _ _, by repeat (first | (with_reducible first | exact HB.out | apply bAl | apply pbD | apply bD1 | refine bSt ?_ GE225.out) | exact HB.out)⟩
             ·
              replace c16 := Bool.eq_false_iff.mpr c16
              subst c16
              have H1 : (r8_Parse.l0 kj11 a0 x5_1 (wrap64 (x6_1 + 1)) (wrap64 (x8_1 + 1)) (wrap64 (x8_1 + 1))) = some (r1, r2, r3) := by rw [if_neg (show ¬ (false = true) by decide)] at H; exact H
              clear H
              have H := H1
              clear H1
              have H' := aK H
              clear H
              go_wp2
              go_roundg kj11
              case measure => have := HK1.out; have := HJ3.out; have := HJ11.out; omega
              case rel => exact ⟨(x5_1), (wrap64 (x6_1 + 1)), (wrap64 (x8_1 + 1)), (wrap64 (x8_1 + 1)), (by first | rfl | (simp; done) | (simp [*]; done)), (by first | rfl | (simp; done) | (simp [*]; done)), (by first | rfl | (simp; done) | (simp [*]; done)), H', ⟨by have := HK1.out; have := HJ3.out; have := HJ11.out; omega⟩, ⟨by (with_reducible repeat (first | apply Kd.R_alloc | apply Kd.R_drewN | apply Kd.R_drew)); exact HO_5.out⟩, ⟨by repeat (first | (with_reducible first | exact HB.out | apply bAl | apply pbD | apply bD1) | exact HB.out)⟩⟩
          ·
           rw [if_neg c11] at H
           exact absurd H (by simp)
         ·
          rw [if_neg c10] at H
          exact absurd H (by simp)
        ·
         rw [if_neg c9] at H
         exact absurd H (by simp)
    ·
     rw [if_neg c3] at H
     have c3b0 : decide (x8_1 ≤ (a0.size : Int)) = false := decide_eq_false c3
     clear c3
     simp only [Option.some.injEq, Prod.mk.injEq] at H
     obtain ⟨rfl, rfl, rfl⟩ := H
     go_wp2
     go_ret3
     exact ⟨_, by first | rfl | (simp [eWn, eWs] <;> rfl) | (simp [*, eWn, eWs] <;> rfl), by (with_reducible repeat (first | apply Kd.R_alloc | apply Kd.R_drewN | apply Kd.R_drew)); exact HO_5.out, by repeat (first | (with_reducible first | exact HB.out | apply bAl | apply pbD | apply bD1) | exact HB.out)⟩
end Go.Proofs.YtgjkjoocnkdckaaGreatDoor.PChk
