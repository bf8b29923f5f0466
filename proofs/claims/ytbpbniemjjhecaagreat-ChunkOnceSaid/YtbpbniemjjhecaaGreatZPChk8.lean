import Derived.Test.YtbpbniemjjhecaaGreatZPChk0
import Derived.Test.YtbpbniemjjhecaaGreatZPChk7
namespace Go.Proofs.YtbpbniemjjhecaaGreat.PChk
open Go.RowKit Go.Proofs.YtbpbniemjjhecaaGreat.G Go.Proofs.YtbpbniemjjhecaaGreatW.PrintWords Go.Proofs.YtbpbniemjjhecaaGreatW.PrintLast Go.Proofs.YtbpbniemjjhecaaGreatW.PrintMore
attribute [local go_sem] max2_int min2_int max_two min_two max_three min_three max_four min_four
set_option linter.unusedVariables false
set_option linter.unusedSimpArgs false
set_option maxHeartbeats 8000000
set_option maxRecDepth 100000
mutual
def r8_left.j0 : Nat → Int → ByteArray → Bool → Option (Bool)
 | 0, _, _, _ => none
 | k + 1, x0, x1, x13 => if x13 = true then (if (x1.size : Int) = 1 then (if x0 = 6 then (if 0 < (x1.size : Int) then ((r1_Class.f k (bt x1 0)).bind fun t171 => (if t171 = 4 then (some true) else (if x0 = 7 then ((r1_Class.f k (bt x1 0)).bind fun t172 => (some (t172 == 3))) else (some false)))) else (none)) else (if x0 = 7 then (if 0 < (x1.size : Int) then ((r1_Class.f k (bt x1 0)).bind fun t173 => (some (t173 == 3))) else (none)) else (some false))) else (some false)) else (if x0 = 8 then ((r8_Names.f).bind fun t174 => (r8_left.l0 k x1 t174 0)) else (r8_left.l1 k x1 0))
def r8_left.l0 : Nat → ByteArray → List ByteArray → Int → Option (Bool)
 | 0, _, _, _ => none
 | k + 1, x1, x5, x6 => if x6 < (x5.length : Int) then (if 0 ≤ x6 then (if (rdOf ByteArray.empty x5 x6).toList = x1.toList then (some true) else (r8_left.l0 k x1 x5 (wrap64 (x6 + 1)))) else (none)) else (some false)
def r8_left.l1 : Nat → ByteArray → Int → Option (Bool)
 | 0, _, _ => none
 | k + 1, x1, x7 => if x7 < (x1.size : Int) then (if 0 ≤ x7 then ((r1_Class.f k (bt x1 x7)).bind fun t178 => (if t178 = 1 then (r8_left.l1 k x1 (wrap64 (x7 + 1))) else (some false))) else (none)) else (if (x1.size : Int) > 0 then (some (decide ((x1.size : Int) ≤ 12))) else (some false))
end
def r8_left.f (k : Nat) (a0 : Int) (a1 : ByteArray) : Option (Bool) := if a0 = 6 then (r8_left.j0 k a0 a1 true) else (r8_left.j0 k a0 a1 (a0 == 7))
theorem r8_left.mono_l : ∀ k, (∀ y0 y1 y2, LeO (r8_left.j0 k y0 y1 y2) (r8_left.j0 (k + 1) y0 y1 y2)) ∧ (∀ y0 y1 y2, LeO (r8_left.l0 k y0 y1 y2) (r8_left.l0 (k + 1) y0 y1 y2)) ∧ (∀ y0 y1, LeO (r8_left.l1 k y0 y1) (r8_left.l1 (k + 1) y0 y1))
 | 0 => ⟨fun _ _ _ r h => by simp [r8_left.j0] at h, fun _ _ _ r h => by simp [r8_left.l0] at h, fun _ _ r h => by simp [r8_left.l1] at h⟩
 | k + 1 => by
  obtain ⟨ih0, ih1, ih2⟩ := r8_left.mono_l k
  refine ⟨?_, ?_, ?_⟩
  ·
   intro y0 y1 y2
   unfold r8_left.j0
   repeat' first
   | (with_reducible first | exact ih0 _ _ _ | exact ih1 _ _ _ | exact ih2 _ _ | exact r1_Class.mono _ _ | exact LeO.refl _ | exact LeO.none _ | refine LeO.ite ?_ ?_ | refine LeO.bind ?_ (fun _ => ?_))
   | exact ih0 _ _ _
   | exact ih1 _ _ _
   | exact ih2 _ _
   | exact r1_Class.mono _ _
   | exact LeO.none _
   | refine LeO.ite ?_ ?_
   | refine LeO.bind ?_ (fun _ => ?_)
  ·
   intro y0 y1 y2
   unfold r8_left.l0
   repeat' first
   | (with_reducible first | exact ih0 _ _ _ | exact ih1 _ _ _ | exact ih2 _ _ | exact r1_Class.mono _ _ | exact LeO.refl _ | exact LeO.none _ | refine LeO.ite ?_ ?_ | refine LeO.bind ?_ (fun _ => ?_))
   | exact ih0 _ _ _
   | exact ih1 _ _ _
   | exact ih2 _ _
   | exact r1_Class.mono _ _
   | exact LeO.none _
   | refine LeO.ite ?_ ?_
   | refine LeO.bind ?_ (fun _ => ?_)
  ·
   intro y0 y1
   unfold r8_left.l1
   repeat' first
   | (with_reducible first | exact ih0 _ _ _ | exact ih1 _ _ _ | exact ih2 _ _ | exact r1_Class.mono _ _ | exact LeO.refl _ | exact LeO.none _ | refine LeO.ite ?_ ?_ | refine LeO.bind ?_ (fun _ => ?_))
   | exact ih0 _ _ _
   | exact ih1 _ _ _
   | exact ih2 _ _
   | exact r1_Class.mono _ _
   | exact LeO.none _
   | refine LeO.ite ?_ ?_
   | refine LeO.bind ?_ (fun _ => ?_)
theorem r8_left.mono : ∀ a0 a1 k, LeO (r8_left.f k a0 a1) (r8_left.f (k + 1) a0 a1) := by
 intro a0 a1 k
 obtain ⟨ih0, ih1, ih2⟩ := r8_left.mono_l k
 unfold r8_left.f
 repeat' first
   | (with_reducible first | exact ih0 _ _ _ | exact ih1 _ _ _ | exact ih2 _ _ | exact r1_Class.mono _ _ | exact LeO.refl _ | exact LeO.none _ | refine LeO.ite ?_ ?_ | refine LeO.bind ?_ (fun _ => ?_))
   | exact ih0 _ _ _
   | exact ih1 _ _ _
   | exact ih2 _ _
   | exact r1_Class.mono _ _
   | exact LeO.none _
   | refine LeO.ite ?_ ?_
   | refine LeO.bind ?_ (fun _ => ?_)
theorem r8_left.calls (k : Nat) (a0 : Int) (a1 : ByteArray) (r : Bool) (w : World) (h : r8_left.f k a0 a1 = some r) :
  Calls Tryz.prog 104 #[.int .i64 a0, .string a1] w fun e w' => e = .returned (.bool r) ∧ Below w.heap.size w w' := by
 have HB := aK (Below.refl w.heap.size w)
 have H : (if a0 = 6 then (r8_left.j0 k a0 a1 true) else (r8_left.j0 k a0 a1 (a0 == 7))) = some r := h
 clear h
 have HC3 := aK H
 clear H
 go_enter Tryz.func104, Tryz.ntmps104
 go_upto_region 1 with (fail)
 go_cut [13] (fun v13 wc => ∃ (kq : Nat) (x13_2 : Bool), v13 = .bool x13_2 ∧ Aside0 (r8_left.j0 kq a0 a1 x13_2 = some r) ∧ Aside0 (kq ≤ k) ∧ Aside0 (Below w.heap.size w wc))
 case first =>
  have H := HC3.out; clear HC3
  by_cases c4 : a0 = 6
  rotate_left
  ·
   rw [if_neg c4] at H; obtain ⟨c4b0, c4b1⟩ := bN c4
   (first | rw [c4b0] | (simp only [i64_w, i32_w]; rw [c4b0]) | skip)
   have H' := aK H; clear H
   go_wp2
   go_meet
   case rel => exact ⟨_, ((a0 == 7)), sX, H', ⟨by first | omega | exact Nat.le_refl _⟩, ⟨bX⟩⟩
  rw [if_pos c4] at H; obtain ⟨c4b0, c4b1⟩ := bY c4; clear c4
  (first | rw [c4b0] | (simp only [i64_w, i32_w]; rw [c4b0]) | skip)
  have H' := aK H; clear H
  go_wp2
  go_meet
  case rel => exact ⟨_, (true), sX, H', ⟨by first | omega | exact Nat.le_refl _⟩, ⟨bX⟩⟩
 case rest =>
  clear HC3
  try clear c1
  try clear p2
  try clear c4
  try clear c4b0
  try clear c4b1
  obtain ⟨kq, x13_2, rfl, HA, HJ2, HB⟩ := hcut
  cases kq with
  | zero => exact absurd HA.out (by simp [r8_left.j0])
  | succ kj2 =>
   have H := HA.out; clear HA
   simp only [r8_left.j0] at H
   by_cases c5 : x13_2 = true
   rotate_left
   ·
    replace c5 := Bool.eq_false_iff.mpr c5; subst c5
    have H1 : (if a0 = 8 then ((r8_Names.f).bind fun t174 => (r8_left.l0 kj2 a1 t174 0)) else (r8_left.l1 kj2 a1 0)) = some r := by rw [if_neg (show ¬ (false = true) by decide)] at H; exact H
    clear H
    have H := H1
    clear H1
    by_cases c19 : a0 = 8
    rotate_left
    ·
     rw [if_neg c19] at H; obtain ⟨c19b0, c19b1⟩ := bN c19; have H' := aK H; clear H
     go_wp2
     go_loopg [7] kj2 (fun kq v7 w' => ∃ (x7_2 : Int), v7 = .int .i64 x7_2 ∧ Aside0 (r8_left.l1 kq a1 x7_2 = some r) ∧ Aside0 (kq ≤ kj2) ∧ Aside0 (Below w.heap.size w w'))
     case atStart => exact ⟨(0), sX, H', ⟨Nat.le_refl _⟩, ⟨bX⟩⟩
     case round =>
      clear H'
      try clear c1
      try clear p1
      try clear q1
      try clear hx1
      try clear qi1
      try clear c2
      try clear p2
      try clear c4
      try clear c4b0
      try clear c4b1
      try clear c5
      try clear c6
      try clear c6b0
      try clear c6b1
      try clear p6
      try clear c7
      try clear c7b0
      try clear c7b1
      try clear c8
      try clear c8b0
      try clear c8b1
      try clear p9
      try clear q9
      try clear hx9
      try clear qi9
      try clear c10
      try clear c11
      try clear c11b0
      try clear c11b1
      try clear c12
      try clear c12b0
      try clear c12b1
      try clear p13
      try clear q13
      try clear hx13
      try clear qi13
      try clear c15
      try clear c15b0
      try clear c15b1
      try clear c16
      try clear c16b0
      try clear c16b1
      try clear p17
      try clear q17
      try clear hx17
      try clear qi17
      try clear c19
      try clear c19b0
      try clear c19b1
      try clear c22
      try clear c22b0
      try clear c23
      try clear c23b0
      try clear c24
      try clear c24b0
      try clear c24b1
      try clear hx177_0
      try clear p1
      try clear p13
      try clear p17
      try clear p177
      try clear p2
      try clear p9
      try clear q1
      try clear q13
      try clear q17
      try clear q177
      try clear q9
      obtain ⟨x7_2, rfl, HA, HK2, HB⟩ := hrel
      cases gk with
      | zero => exact absurd HA.out (by simp [r8_left.l1])
      | succ k2 =>
       have H := HA.out; clear HA
       simp only [r8_left.l1] at H
       by_cases c28 : x7_2 < (a1.size : Int)
       rotate_left
       ·
        rw [if_neg c28] at H; have c28b0 : decide (x7_2 < (a1.size : Int)) = false := decide_eq_false c28; clear c28
        by_cases c33 : (a1.size : Int) > 0
        rotate_left
        ·
         rw [if_neg c33] at H; have c33b0 : decide (0 < (a1.size : Int)) = false := decide_eq_false c33
         have c33b1 : decide (0 < a1.size) = false := decide_eq_false (by omega)
         clear c33; obtain rfl := oI H
         go_wp2
         go_ret
         exact ⟨eX, bX⟩
        rw [if_pos c33] at H; have c33b0 : decide (0 < (a1.size : Int)) = true := decide_eq_true c33
        have c33b1 : decide (0 < a1.size) = true := decide_eq_true (by omega)
        clear c33; obtain rfl := oI H
        go_wp2
        go_ret
        exact ⟨eX, bX⟩
       rw [if_pos c28] at H; have c28b0 : decide (x7_2 < (a1.size : Int)) = true := decide_eq_true c28; clear c28
       by_cases c29 : 0 ≤ x7_2
       rotate_left
       ·
        rw [if_neg c29] at H
        exact absurd H (by simp)
       rw [if_pos c29] at H; have c29b0 : decide (0 ≤ x7_2) = true := decide_eq_true c29; clear c29; obtain ⟨t178, A31, H⟩ := oC H
       try dsimp only at H
       by_cases c32 : t178 = 1
       rotate_left
       ·
        rw [if_neg c32] at H; obtain ⟨c32b0, c32b1⟩ := bN c32; obtain rfl := oI H; have p30 : 0 ≤ (x7_2 : Int) := oA; have q30 : x7_2 < (a1.size : Int) := oA
        have hx30 := bt_at a1 x7_2
        replace p30 := eq_true p30; replace q30 := eq_true q30
        go_wp2_with (first | ((with_reducible refine gate_callee (f := 66) rfl ?_); refine gO 61 Tryz.func66 #[.int .u8 (bt a1 x7_2)] ?_; (with_reducible refine (r1_Class.calls k2 (bt a1 x7_2) t178 _ A31.out).mono ?_); rintro e w' ⟨rfl, ⟨nd, rfl⟩⟩; refine ⟨_, rfl, ?_⟩))
        go_ret
        exact ⟨eX, bX⟩
       rw [if_pos c32] at H; obtain ⟨c32b0, c32b1⟩ := bY c32; clear c32; have H' := aK H; clear H; have p30 : 0 ≤ (x7_2 : Int) := oA; have q30 : x7_2 < (a1.size : Int) := oA
       have hx30 := bt_at a1 x7_2
       replace p30 := eq_true p30; replace q30 := eq_true q30
       go_wp2_with (first | ((with_reducible refine gate_callee (f := 66) rfl ?_); refine gO 61 Tryz.func66 #[.int .u8 (bt a1 x7_2)] ?_; (with_reducible refine (r1_Class.calls k2 (bt a1 x7_2) t178 _ A31.out).mono ?_); rintro e w' ⟨rfl, ⟨nd, rfl⟩⟩; refine ⟨_, rfl, ?_⟩))
       go_roundg k2
       case measure => have := HJ2.out; have := HK2.out; omega
       case rel => exact ⟨(wrap64 (x7_2 + 1)), sX, H', ⟨by have := HJ2.out; have := HK2.out; omega⟩, ⟨bX⟩⟩
    rw [if_pos c19] at H; obtain ⟨c19b0, c19b1⟩ := bY c19; clear c19
    replace H := oB H
    obtain ⟨t174, A200, H⟩ := H
    replace H : (r8_left.l0 kj2 a1 t174 0) = some r := H
    have A20 := aK A200; clear A200; have H' := aK H; clear H
    go_wp2_with (first | ((with_reducible refine gate_callee (f := 74) rfl ?_); refine gO 39 Tryz.func74 #[] ?_; (with_reducible refine (r8_Names.calls  t174 _ A20.out).mono ?_); rintro e w21 ⟨v175, rfl, ho0, hb⟩; refine ⟨_, rfl, ?_⟩; have HO176 := aK (Kd.R_lower ho0 (bSz bX)); replace HB := aK (bSp bX hb); clear hb; clear ho0))
    go_loopg [6] kj2 (fun kq v6 w' => ∃ (x6_2 : Int), v6 = .int .i64 x6_2 ∧ Aside0 (r8_left.l0 kq a1 t174 x6_2 = some r) ∧ Aside0 (kq ≤ kj2) ∧ Aside0 (Kd.R Kd.string 9 w' w.heap.size (fun _ => True) v175 t174) ∧ Aside0 (Below w.heap.size w w'))
    case atStart => exact ⟨(0), sX, H', ⟨Nat.le_refl _⟩, ⟨rX HO176.out⟩, ⟨bX⟩⟩
    case round =>
     clear H'
     try clear c1
     try clear p1
     try clear q1
     try clear hx1
     try clear qi1
     try clear p2
     try clear c4
     try clear c4b0
     try clear c4b1
     try clear c5
     try clear c6
     try clear c6b0
     try clear c6b1
     try clear c7
     try clear c7b0
     try clear c7b1
     try clear c8
     try clear c8b0
     try clear c8b1
     try clear p9
     try clear q9
     try clear hx9
     try clear qi9
     try clear c10
     try clear c11
     try clear c11b0
     try clear c11b1
     try clear c12
     try clear c12b0
     try clear c12b1
     try clear p13
     try clear q13
     try clear hx13
     try clear qi13
     try clear c15
     try clear c15b0
     try clear c15b1
     try clear c16
     try clear c16b0
     try clear c16b1
     try clear p17
     try clear q17
     try clear hx17
     try clear qi17
     try clear c19
     try clear c19b0
     try clear c19b1
     try clear p13
     try clear p17
     try clear p2
     try clear p9
     try clear q13
     try clear q17
     try clear q9
     obtain ⟨x6_2, rfl, HA, HK2, HO_5, HB⟩ := hrel
     cases gk with
     | zero => exact absurd HA.out (by simp [r8_left.l0])
     | succ k2 =>
      have H := HA.out; clear HA
      simp only [r8_left.l0] at H
      by_cases c22 : x6_2 < (t174.length : Int)
      rotate_left
      ·
       rw [if_neg c22] at H; have c22b0 : decide (x6_2 < (t174.length : Int)) = false := decide_eq_false c22; clear c22; obtain rfl := oI H
       obtain ⟨Ao27, co27, eo27⟩ := Kd.R_slice HO_5.out
       subst eo27
       go_wp2
       go_ret
       exact ⟨eX, bX⟩
      rw [if_pos c22] at H; have c22b0 : decide (x6_2 < (t174.length : Int)) = true := decide_eq_true c22; clear c22
      by_cases c23 : 0 ≤ x6_2
      rotate_left
      ·
       rw [if_neg c23] at H
       exact absurd H (by simp)
      rw [if_pos c23] at H; have c23b0 : decide (0 ≤ x6_2) = true := decide_eq_true c23; clear c23
      by_cases c24 : (rdOf ByteArray.empty t174 x6_2).toList = a1.toList
      rotate_left
      ·
       rw [if_neg c24] at H; obtain ⟨c24b0, c24b1⟩ := bN c24; have H' := aK H; clear H
       obtain ⟨Ao26, co26, eo26⟩ := Kd.R_slice HO_5.out
       subst eo26; have p177 : 0 ≤ (x6_2 : Int) := oA; have q177 : x6_2 < (t174.length : Int) := oA
       obtain ⟨ad177, e177, hx177_0⟩ := Kd.at_string (Kd.R_reads' HO_5.out).2.2 x6_2 p177 q177
       cases e177
       replace p177 := eq_true p177; replace q177 := eq_true q177
       go_wp2
       go_roundg k2
       case measure => have := HJ2.out; have := HK2.out; omega
       case rel => exact ⟨(wrap64 (x6_2 + 1)), sX, H', ⟨by have := HJ2.out; have := HK2.out; omega⟩, ⟨rX HO_5.out⟩, ⟨bX⟩⟩
      rw [if_pos c24] at H; obtain ⟨c24b0, c24b1⟩ := bY c24; clear c24; obtain rfl := oI H
      obtain ⟨Ao25, co25, eo25⟩ := Kd.R_slice HO_5.out
      subst eo25; have p177 : 0 ≤ (x6_2 : Int) := oA; have q177 : x6_2 < (t174.length : Int) := oA
      obtain ⟨ad177, e177, hx177_0⟩ := Kd.at_string (Kd.R_reads' HO_5.out).2.2 x6_2 p177 q177
      cases e177
      replace p177 := eq_true p177; replace q177 := eq_true q177
      go_wp2
      go_ret
      exact ⟨eX, bX⟩
   subst c5
   have H1 : (if (a1.size : Int) = 1 then (if a0 = 6 then (if 0 < (a1.size : Int) then ((r1_Class.f kj2 (bt a1 0)).bind fun t171 => (if t171 = 4 then (some true) else (if a0 = 7 then ((r1_Class.f kj2 (bt a1 0)).bind fun t172 => (some (t172 == 3))) else (some false)))) else (none)) else (if a0 = 7 then (if 0 < (a1.size : Int) then ((r1_Class.f kj2 (bt a1 0)).bind fun t173 => (some (t173 == 3))) else (none)) else (some false))) else (some false)) = some r := by rw [if_pos rfl] at H; exact H
   clear H
   have H := H1
   clear H1
   by_cases c6 : (a1.size : Int) = 1
   rotate_left
   ·
    rw [if_neg c6] at H; obtain ⟨c6b0, c6b1⟩ := bN c6; obtain rfl := oI H
    go_wp2
    go_ret
    exact ⟨eX, bX⟩
   rw [if_pos c6] at H; obtain ⟨c6b0, c6b1⟩ := bY c6; clear c6
   by_cases c7 : a0 = 6
   rotate_left
   ·
    rw [if_neg c7] at H; obtain ⟨c7b0, c7b1⟩ := bN c7
    by_cases c15 : a0 = 7
    rotate_left
    ·
     rw [if_neg c15] at H; obtain ⟨c15b0, c15b1⟩ := bN c15; obtain rfl := oI H
     go_wp2
     go_ret
     exact ⟨eX, bX⟩
    rw [if_pos c15] at H; obtain ⟨c15b0, c15b1⟩ := bY c15; clear c15
    by_cases c16 : 0 < (a1.size : Int)
    rotate_left
    ·
     rw [if_neg c16] at H
     exact absurd H (by simp)
    rw [if_pos c16] at H; have c16b0 : decide (0 < (a1.size : Int)) = true := decide_eq_true c16
    have c16b1 : decide (0 < a1.size) = true := decide_eq_true (by omega)
    clear c16
    replace H := oB H
    obtain ⟨t173, A180, H⟩ := H
    replace H : (some (t173 == 3)) = some r := H
    have A18 := aK A180; clear A180; obtain rfl := oI H
    have p17 : 0 ≤ (0 : Int) := (by omega)
    have q17 : 0 < a1.size := (by have : (0 : Int) < (a1.size : Int) := oA; omega)
    have hx17 : ∀ h : 0 < a1.size, ((a1[0]'h).toNat : Int) = bt a1 0 := bt_at a1 0
    clear p17
    have qi17 : (0 < (a1.size : Int)) = True := eq_true (oA)
    replace q17 := eq_true q17
    go_wp2_with (first | (go_at_call 66; (with_reducible refine (r1_Class.calls kj2 (bt a1 0) t173 _ A18.out).mono ?_); rintro e w' ⟨rfl, ⟨nd, rfl⟩⟩))
    go_ret
    exact ⟨eX, bX⟩
   rw [if_pos c7] at H; obtain ⟨c7b0, c7b1⟩ := bY c7; clear c7
   by_cases c8 : 0 < (a1.size : Int)
   rotate_left
   ·
    rw [if_neg c8] at H
    exact absurd H (by simp)
   rw [if_pos c8] at H; have c8b0 : decide (0 < (a1.size : Int)) = true := decide_eq_true c8
   have c8b1 : decide (0 < a1.size) = true := decide_eq_true (by omega)
   clear c8; obtain ⟨t171, A10, H⟩ := oC H
   try dsimp only at H
   by_cases c11 : t171 = 4
   rotate_left
   ·
    rw [if_neg c11] at H; obtain ⟨c11b0, c11b1⟩ := bN c11
    by_cases c12 : a0 = 7
    rotate_left
    ·
     rw [if_neg c12] at H; obtain ⟨c12b0, c12b1⟩ := bN c12; obtain rfl := oI H
     have p9 : 0 ≤ (0 : Int) := (by omega)
     have q9 : 0 < a1.size := (by have : (0 : Int) < (a1.size : Int) := oA; omega)
     have hx9 : ∀ h : 0 < a1.size, ((a1[0]'h).toNat : Int) = bt a1 0 := bt_at a1 0
     clear p9
     have qi9 : (0 < (a1.size : Int)) = True := eq_true (oA)
     replace q9 := eq_true q9
     go_wp2_with (first | (go_at_call 66; (with_reducible refine (r1_Class.calls kj2 (bt a1 0) t171 _ A10.out).mono ?_); rintro e w' ⟨rfl, ⟨nd, rfl⟩⟩))
     go_ret
     exact ⟨eX, bX⟩
    rw [if_pos c12] at H; obtain ⟨c12b0, c12b1⟩ := bY c12; clear c12
    replace H := oB H
    obtain ⟨t172, A140, H⟩ := H
    replace H : (some (t172 == 3)) = some r := H
    have A14 := aK A140; clear A140; obtain rfl := oI H
    have p9 : 0 ≤ (0 : Int) := (by omega)
    have q9 : 0 < a1.size := (by have : (0 : Int) < (a1.size : Int) := oA; omega)
    have hx9 : ∀ h : 0 < a1.size, ((a1[0]'h).toNat : Int) = bt a1 0 := bt_at a1 0
    clear p9
    have qi9 : (0 < (a1.size : Int)) = True := eq_true (oA)
    replace q9 := eq_true q9
    go_wp2_with (first | (go_at_call 66; (with_reducible refine (r1_Class.calls kj2 (bt a1 0) t171 _ A10.out).mono ?_); rintro e w' ⟨rfl, ⟨nd, rfl⟩⟩; have p13 : 0 ≤ (0 : Int) := (by omega); have q13 : 0 < a1.size := (by have : (0 : Int) < (a1.size : Int) := oA; omega); have hx13 : ∀ h : 0 < a1.size, ((a1[0]'h).toNat : Int) = bt a1 0 := bt_at a1 0; clear p13; have qi13 : (0 < (a1.size : Int)) = True := eq_true (oA); replace q13 := eq_true q13) | (go_at_call 66; (with_reducible refine (r1_Class.calls kj2 (bt a1 0) t172 _ A14.out).mono ?_); rintro e w' ⟨rfl, ⟨nd, rfl⟩⟩))
    go_ret
    exact ⟨by first | rfl | (simp only [oI (A14.out.symm.trans A10.out)]; done) | (simp only [oI (A14.out.symm.trans A10.out)]; rfl) | (simp [eWn, eWs] <;> rfl) | (simp [*, eWn, eWs] <;> rfl), bX⟩
   rw [if_pos c11] at H; obtain ⟨c11b0, c11b1⟩ := bY c11; clear c11; obtain rfl := oI H
   have p9 : 0 ≤ (0 : Int) := (by omega)
   have q9 : 0 < a1.size := (by have : (0 : Int) < (a1.size : Int) := oA; omega)
   have hx9 : ∀ h : 0 < a1.size, ((a1[0]'h).toNat : Int) = bt a1 0 := bt_at a1 0
   clear p9
   have qi9 : (0 < (a1.size : Int)) = True := eq_true (oA)
   replace q9 := eq_true q9
   go_wp2_with (first | (go_at_call 66; (with_reducible refine (r1_Class.calls kj2 (bt a1 0) t171 _ A10.out).mono ?_); rintro e w' ⟨rfl, ⟨nd, rfl⟩⟩))
   go_ret
   exact ⟨eX, bX⟩
def r2_weight.l0 : Nat → Int → Int → Int → Option (Int)
 | 0, _, _, _ => none
 | k + 1, x0, x3, x4 => if x4 < x0 then (r2_weight.l0 k x0 (wrap64 (2 * x3)) (wrap64 (x4 + 1))) else (some x3)
def r2_weight.f (k : Nat) (a0 : Int) : Option (Int) := r2_weight.l0 k a0 1 1
theorem r2_weight.mono_l : ∀ k, (∀ y0 y1 y2, LeO (r2_weight.l0 k y0 y1 y2) (r2_weight.l0 (k + 1) y0 y1 y2))
 | 0 => fun _ _ _ r h => by simp [r2_weight.l0] at h
 | k + 1 => by
  have ih0 := r2_weight.mono_l k
  ·
   intro y0 y1 y2
   unfold r2_weight.l0
   repeat' first
   | (with_reducible first | exact ih0 _ _ _ | exact LeO.refl _ | exact LeO.none _ | refine LeO.ite ?_ ?_ | refine LeO.bind ?_ (fun _ => ?_))
   | exact ih0 _ _ _
   | exact LeO.none _
   | refine LeO.ite ?_ ?_
   | refine LeO.bind ?_ (fun _ => ?_)
theorem r2_weight.mono : ∀ a0 k, LeO (r2_weight.f k a0) (r2_weight.f (k + 1) a0) := by
 intro a0 k
 have ih0 := r2_weight.mono_l k
 unfold r2_weight.f
 repeat' first
   | (with_reducible first | exact ih0 _ _ _ | exact LeO.refl _ | exact LeO.none _ | refine LeO.ite ?_ ?_ | refine LeO.bind ?_ (fun _ => ?_))
   | exact ih0 _ _ _
   | exact LeO.none _
   | refine LeO.ite ?_ ?_
   | refine LeO.bind ?_ (fun _ => ?_)
theorem r2_weight.calls (k : Nat) (a0 : Int) (r : Int) (w : World) (h : r2_weight.f k a0 = some r) :
  Calls Tryz.prog 143 #[.int .i64 a0] w fun e w' => e = .returned (.int .i64 r) ∧ Drawn0 w w' := by
 have H : (r2_weight.l0 k a0 1 1) = some r := h
 clear h
 have H' := aK H
 clear H
 go_enter Tryz.func143, Tryz.ntmps143
 go_wp2
 go_loopg [3, 4] k (fun kq v3 v4 w' => ∃ (x3_1 : Int) (x4_1 : Int), v3 = .int .i64 x3_1 ∧ v4 = .int .i64 x4_1 ∧ Aside0 (r2_weight.l0 kq a0 x3_1 x4_1 = some r) ∧ Aside0 (kq ≤ k) ∧ Drawn0 w w')
 case atStart => exact ⟨(1), (1), sX, sX, H', ⟨Nat.le_refl _⟩, dX⟩
 case round =>
  clear H'
  try clear c1
  obtain ⟨x3_1, x4_1, rfl, rfl, HA, HK1, ⟨m1, rfl⟩⟩ := hrel
  cases gk with
  | zero => exact absurd HA.out (by simp [r2_weight.l0])
  | succ k1 =>
   have H := HA.out; clear HA
   simp only [r2_weight.l0] at H
   by_cases c2 : x4_1 < a0
   rotate_left
   ·
    rw [if_neg c2] at H; have c2b0 : decide (x4_1 < a0) = false := decide_eq_false c2; clear c2; obtain rfl := oI H
    go_wp2
    go_ret
    exact ⟨sX, dX⟩
   rw [if_pos c2] at H; have c2b0 : decide (x4_1 < a0) = true := decide_eq_true c2; clear c2; have H' := aK H; clear H
   go_wp2
   go_roundg k1
   case measure => have := HK1.out; omega
   case rel => exact ⟨(wrap64 (2 * x3_1)), (wrap64 (x4_1 + 1)), sX, sX, H', ⟨by have := HK1.out; omega⟩, dX⟩
def r2_Dots.l0 : Nat → Int → ByteArray → Int → Option (ByteArray)
 | 0, _, _, _ => none
 | k + 1, x0, x3, x4 => if x4 ≤ 6 then ((r2_weight.f k x4).bind fun t179 => (if t179 = 0 then (none) else (if (Int.tmod (wrap64 (Int.tdiv (wrap64 (x0)) t179)) 2) = 1 then ((some (([(wrap64 (48 + x4)) % 256] : List Int) : List Int)).bind fun y180 => (if x3.size + (strOfNums y180).size ≤ 9223372036854775807 then (r2_Dots.l0 k x0 (x3 ++ (strOfNums y180)) (wrap64 (x4 + 1))) else (none))) else (r2_Dots.l0 k x0 x3 (wrap64 (x4 + 1)))))) else (some x3)
def r2_Dots.f (k : Nat) (a0 : Int) : Option (ByteArray) := r2_Dots.l0 k a0 (⟨#[]⟩ : ByteArray) 1
end Go.Proofs.YtbpbniemjjhecaaGreat.PChk
