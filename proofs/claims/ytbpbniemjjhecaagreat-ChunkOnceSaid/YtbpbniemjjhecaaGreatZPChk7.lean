import Derived.Test.YtbpbniemjjhecaaGreatZPChk0
import Derived.Test.YtbpbniemjjhecaaGreatZGChkIndex
namespace Go.Proofs.YtbpbniemjjhecaaGreat.PChk
open Go.RowKit Go.Proofs.YtbpbniemjjhecaaGreat.G Go.Proofs.YtbpbniemjjhecaaGreatW.PrintWords Go.Proofs.YtbpbniemjjhecaaGreatW.PrintLast Go.Proofs.YtbpbniemjjhecaaGreatW.PrintMore
attribute [local go_sem] max2_int min2_int max_two min_two max_three min_three max_four min_four
set_option linter.unusedVariables false
set_option linter.unusedSimpArgs false
set_option maxHeartbeats 8000000
set_option maxRecDepth 100000
mutual
def r1_Class.j0 : Nat → Int → Bool → Option (Int)
 | 0, _, _ => none
 | k + 1, x0, x10 => if x10 = true then (some 1) else (if x0 ≥ 65 then (r1_Class.j1 k x0 (decide (x0 ≤ 90))) else (r1_Class.j1 k x0 false))
def r1_Class.j1 : Nat → Int → Bool → Option (Int)
 | 0, _, _ => none
 | k + 1, x0, x16 => if x16 = true then (some 2) else (if x0 ≥ 48 then (r1_Class.j2 k x0 (decide (x0 ≤ 57))) else (r1_Class.j2 k x0 false))
def r1_Class.j2 : Nat → Int → Bool → Option (Int)
 | 0, _, _ => none
 | k + 1, x0, x22 => if x22 = true then (some 3) else (if x0 = 32 then (some 5) else (if x0 = 10 then (some 6) else ((r1_Marks.f).bind fun t167 => (r1_Class.l0 k x0 t167 0))))
def r1_Class.l0 : Nat → Int → ByteArray → Int → Option (Int)
 | 0, _, _, _ => none
 | k + 1, x0, x3, x4 => if x4 < (x3.size : Int) then (if 0 ≤ x4 then (if (bt x3 x4) = x0 then (some 4) else (r1_Class.l0 k x0 x3 (wrap64 (x4 + 1)))) else (none)) else (some 0)
end
def r1_Class.f (k : Nat) (a0 : Int) : Option (Int) := if a0 ≥ 97 then (r1_Class.j0 k a0 (decide (a0 ≤ 122))) else (r1_Class.j0 k a0 false)
theorem r1_Class.mono_l : ∀ k, (∀ y0 y1, LeO (r1_Class.j0 k y0 y1) (r1_Class.j0 (k + 1) y0 y1)) ∧ (∀ y0 y1, LeO (r1_Class.j1 k y0 y1) (r1_Class.j1 (k + 1) y0 y1)) ∧ (∀ y0 y1, LeO (r1_Class.j2 k y0 y1) (r1_Class.j2 (k + 1) y0 y1)) ∧ (∀ y0 y1 y2, LeO (r1_Class.l0 k y0 y1 y2) (r1_Class.l0 (k + 1) y0 y1 y2))
 | 0 => ⟨fun _ _ r h => by simp [r1_Class.j0] at h, fun _ _ r h => by simp [r1_Class.j1] at h, fun _ _ r h => by simp [r1_Class.j2] at h, fun _ _ _ r h => by simp [r1_Class.l0] at h⟩
 | k + 1 => by
  obtain ⟨ih0, ih1, ih2, ih3⟩ := r1_Class.mono_l k
  refine ⟨?_, ?_, ?_, ?_⟩
  ·
   intro y0 y1
   unfold r1_Class.j0
   repeat' first
   | (with_reducible first | exact ih0 _ _ | exact ih1 _ _ | exact ih2 _ _ | exact ih3 _ _ _ | exact LeO.refl _ | exact LeO.none _ | refine LeO.ite ?_ ?_ | refine LeO.bind ?_ (fun _ => ?_))
   | exact ih0 _ _
   | exact ih1 _ _
   | exact ih2 _ _
   | exact ih3 _ _ _
   | exact LeO.none _
   | refine LeO.ite ?_ ?_
   | refine LeO.bind ?_ (fun _ => ?_)
  ·
   intro y0 y1
   unfold r1_Class.j1
   repeat' first
   | (with_reducible first | exact ih0 _ _ | exact ih1 _ _ | exact ih2 _ _ | exact ih3 _ _ _ | exact LeO.refl _ | exact LeO.none _ | refine LeO.ite ?_ ?_ | refine LeO.bind ?_ (fun _ => ?_))
   | exact ih0 _ _
   | exact ih1 _ _
   | exact ih2 _ _
   | exact ih3 _ _ _
   | exact LeO.none _
   | refine LeO.ite ?_ ?_
   | refine LeO.bind ?_ (fun _ => ?_)
  ·
   intro y0 y1
   unfold r1_Class.j2
   repeat' first
   | (with_reducible first | exact ih0 _ _ | exact ih1 _ _ | exact ih2 _ _ | exact ih3 _ _ _ | exact LeO.refl _ | exact LeO.none _ | refine LeO.ite ?_ ?_ | refine LeO.bind ?_ (fun _ => ?_))
   | exact ih0 _ _
   | exact ih1 _ _
   | exact ih2 _ _
   | exact ih3 _ _ _
   | exact LeO.none _
   | refine LeO.ite ?_ ?_
   | refine LeO.bind ?_ (fun _ => ?_)
  ·
   intro y0 y1 y2
   unfold r1_Class.l0
   repeat' first
   | (with_reducible first | exact ih0 _ _ | exact ih1 _ _ | exact ih2 _ _ | exact ih3 _ _ _ | exact LeO.refl _ | exact LeO.none _ | refine LeO.ite ?_ ?_ | refine LeO.bind ?_ (fun _ => ?_))
   | exact ih0 _ _
   | exact ih1 _ _
   | exact ih2 _ _
   | exact ih3 _ _ _
   | exact LeO.none _
   | refine LeO.ite ?_ ?_
   | refine LeO.bind ?_ (fun _ => ?_)
theorem r1_Class.mono : ∀ a0 k, LeO (r1_Class.f k a0) (r1_Class.f (k + 1) a0) := by
 intro a0 k
 obtain ⟨ih0, ih1, ih2, ih3⟩ := r1_Class.mono_l k
 unfold r1_Class.f
 repeat' first
   | (with_reducible first | exact ih0 _ _ | exact ih1 _ _ | exact ih2 _ _ | exact ih3 _ _ _ | exact LeO.refl _ | exact LeO.none _ | refine LeO.ite ?_ ?_ | refine LeO.bind ?_ (fun _ => ?_))
   | exact ih0 _ _
   | exact ih1 _ _
   | exact ih2 _ _
   | exact ih3 _ _ _
   | exact LeO.none _
   | refine LeO.ite ?_ ?_
   | refine LeO.bind ?_ (fun _ => ?_)
theorem r1_Class.calls (k : Nat) (a0 : Int) (r : Int) (w : World) (h : r1_Class.f k a0 = some r) :
  Calls Tryz.prog 66 #[.int .u8 a0] w fun e w' => e = .returned (.int .i64 r) ∧ Drawn0 w w' := by
 have H : (if a0 ≥ 97 then (r1_Class.j0 k a0 (decide (a0 ≤ 122))) else (r1_Class.j0 k a0 false)) = some r := h
 clear h
 have HC2 := aK H
 clear H
 go_enter Tryz.func66, Tryz.ntmps66
 go_upto_region 1 with (fail)
 go_cut [10] (fun v10 wc => ∃ (kq : Nat) (x10_1 : Bool), v10 = .bool x10_1 ∧ Aside0 (r1_Class.j0 kq a0 x10_1 = some r) ∧ Aside0 (kq ≤ k) ∧ Drawn0 w wc)
 case first =>
  have H := HC2.out; clear HC2
  by_cases c3 : a0 ≥ 97
  rotate_left
  ·
   rw [if_neg c3] at H; have c3b0 : decide (97 ≤ a0) = false := decide_eq_false c3; clear c3
   (first | rw [c3b0] | (simp only [i64_w, i32_w]; rw [c3b0]) | skip)
   have H' := aK H; clear H
   go_wp2
   go_meet
   case rel => exact ⟨_, (false), sX, H', ⟨by first | omega | exact Nat.le_refl _⟩, dX⟩
  rw [if_pos c3] at H; have c3b0 : decide (97 ≤ a0) = true := decide_eq_true c3; clear c3
  (first | rw [c3b0] | (simp only [i64_w, i32_w]; rw [c3b0]) | skip)
  have H' := aK H; clear H
  go_wp2
  go_meet
  case rel => exact ⟨_, (decide (a0 ≤ 122)), sX, H', ⟨by first | omega | exact Nat.le_refl _⟩, dX⟩
 case rest =>
  clear HC2
  try clear p2
  try clear c3
  try clear c3b0
  obtain ⟨kq, x10_1, rfl, HA, HJ1, ⟨mc1, rfl⟩⟩ := hcut
  cases kq with
  | zero => exact absurd HA.out (by simp [r1_Class.j0])
  | succ kj1 =>
   have H := HA.out; clear HA
   simp only [r1_Class.j0] at H
   by_cases c4 : x10_1 = true
   rotate_left
   ·
    replace c4 := Bool.eq_false_iff.mpr c4; subst c4
    have H1 : (if a0 ≥ 65 then (r1_Class.j1 kj1 a0 (decide (a0 ≤ 90))) else (r1_Class.j1 kj1 a0 false)) = some r := by rw [if_neg (show ¬ (false = true) by decide)] at H; exact H
    clear H
    have H := H1
    clear H1; have HC5 := aK H; clear H
    go_upto_region 3 with (fail)
    go_cut [16] (fun v16 wc => ∃ (kq : Nat) (x16_4 : Bool), v16 = .bool x16_4 ∧ Aside0 (r1_Class.j1 kq a0 x16_4 = some r) ∧ Aside0 (kq ≤ kj1) ∧ Drawn0 w wc)
    case first =>
     have H := HC5.out; clear HC5
     by_cases c6 : a0 ≥ 65
     rotate_left
     ·
      rw [if_neg c6] at H; have c6b0 : decide (65 ≤ a0) = false := decide_eq_false c6; clear c6
      (first | rw [c6b0] | (simp only [i64_w, i32_w]; rw [c6b0]) | skip)
      have H' := aK H; clear H
      go_wp2
      go_meet
      case rel => exact ⟨_, (false), sX, H', ⟨by have := HJ1.out; first | omega | exact Nat.le_refl _⟩, dX⟩
     rw [if_pos c6] at H; have c6b0 : decide (65 ≤ a0) = true := decide_eq_true c6; clear c6
     (first | rw [c6b0] | (simp only [i64_w, i32_w]; rw [c6b0]) | skip)
     have H' := aK H; clear H
     go_wp2
     go_meet
     case rel => exact ⟨_, (decide (a0 ≤ 90)), sX, H', ⟨by have := HJ1.out; first | omega | exact Nat.le_refl _⟩, dX⟩
    case rest =>
     clear HC5
     try clear c1
     try clear p2
     try clear c3
     try clear c3b0
     try clear c4
     try clear c6
     try clear c6b0
     try clear p2
     obtain ⟨kq, x16_4, rfl, HA, HJ4, ⟨mc4, rfl⟩⟩ := hcut
     cases kq with
     | zero => exact absurd HA.out (by simp [r1_Class.j1])
     | succ kj4 =>
      have H := HA.out; clear HA
      simp only [r1_Class.j1] at H
      by_cases c7 : x16_4 = true
      rotate_left
      ·
       replace c7 := Bool.eq_false_iff.mpr c7; subst c7
       have H1 : (if a0 ≥ 48 then (r1_Class.j2 kj4 a0 (decide (a0 ≤ 57))) else (r1_Class.j2 kj4 a0 false)) = some r := by rw [if_neg (show ¬ (false = true) by decide)] at H; exact H
       clear H
       have H := H1
       clear H1; have HC8 := aK H; clear H
       go_upto_region 5 with (fail)
       go_cut [22] (fun v22 wc => ∃ (kq : Nat) (x22_7 : Bool), v22 = .bool x22_7 ∧ Aside0 (r1_Class.j2 kq a0 x22_7 = some r) ∧ Aside0 (kq ≤ kj4) ∧ Drawn0 w wc)
       case first =>
        have H := HC8.out; clear HC8
        by_cases c9 : a0 ≥ 48
        rotate_left
        ·
         rw [if_neg c9] at H; have c9b0 : decide (48 ≤ a0) = false := decide_eq_false c9; clear c9
         (first | rw [c9b0] | (simp only [i64_w, i32_w]; rw [c9b0]) | skip)
         have H' := aK H; clear H
         go_wp2
         go_meet
         case rel => exact ⟨_, (false), sX, H', ⟨by have := HJ1.out; have := HJ4.out; first | omega | exact Nat.le_refl _⟩, dX⟩
        rw [if_pos c9] at H; have c9b0 : decide (48 ≤ a0) = true := decide_eq_true c9; clear c9
        (first | rw [c9b0] | (simp only [i64_w, i32_w]; rw [c9b0]) | skip)
        have H' := aK H; clear H
        go_wp2
        go_meet
        case rel => exact ⟨_, (decide (a0 ≤ 57)), sX, H', ⟨by have := HJ1.out; have := HJ4.out; first | omega | exact Nat.le_refl _⟩, dX⟩
       case rest =>
        clear HC8
        try clear c1
        try clear p2
        try clear c3
        try clear c3b0
        try clear c4
        try clear c6
        try clear c6b0
        try clear c7
        try clear c9
        try clear c9b0
        try clear p2
        obtain ⟨kq, x22_7, rfl, HA, HJ7, ⟨mc7, rfl⟩⟩ := hcut
        cases kq with
        | zero => exact absurd HA.out (by simp [r1_Class.j2])
        | succ kj7 =>
         have H := HA.out; clear HA
         simp only [r1_Class.j2] at H
         by_cases c10 : x22_7 = true
         rotate_left
         ·
          replace c10 := Bool.eq_false_iff.mpr c10; subst c10
          have H1 : (if a0 = 32 then (some 5) else (if a0 = 10 then (some 6) else ((r1_Marks.f).bind fun t167 => (r1_Class.l0 kj7 a0 t167 0)))) = some r := by rw [if_neg (show ¬ (false = true) by decide)] at H; exact H
          clear H
          have H := H1
          clear H1
          by_cases c11 : a0 = 32
          rotate_left
          ·
           rw [if_neg c11] at H; obtain ⟨c11b0, c11b1⟩ := bN c11
           by_cases c12 : a0 = 10
           rotate_left
           ·
            rw [if_neg c12] at H; obtain ⟨c12b0, c12b1⟩ := bN c12
            replace H := oB H
            obtain ⟨t167, A130, H⟩ := H
            replace H : (r1_Class.l0 kj7 a0 t167 0) = some r := H
            have A13 := aK A130; clear A130; have H' := aK H; clear H
            go_wp2_with (first | ((with_reducible refine gate_callee (f := 73) rfl ?_); refine gO 27 Tryz.func73 #[] ?_; (with_reducible refine (r1_Marks.calls  t167 _ A13.out).mono ?_); rintro e w' ⟨rfl, ⟨nd, rfl⟩⟩; refine ⟨_, rfl, ?_⟩))
            go_loopg [4] kj7 (fun kq v4 w' => ∃ (x4_4 : Int), v4 = .int .i64 x4_4 ∧ Aside0 (r1_Class.l0 kq a0 t167 x4_4 = some r) ∧ Aside0 (kq ≤ kj7) ∧ Drawn0 w w')
            case atStart => exact ⟨(0), sX, H', ⟨Nat.le_refl _⟩, dX⟩
            case round =>
             clear H'
             try clear c1
             try clear p2
             try clear c3
             try clear c3b0
             try clear c4
             try clear c6
             try clear c6b0
             try clear c7
             try clear c9
             try clear c9b0
             try clear c10
             try clear c11
             try clear c11b0
             try clear c11b1
             try clear c12
             try clear c12b0
             try clear c12b1
             try clear p2
             obtain ⟨x4_4, rfl, HA, HK4, ⟨m4, rfl⟩⟩ := hrel
             cases gk with
             | zero => exact absurd HA.out (by simp [r1_Class.l0])
             | succ k4 =>
              have H := HA.out; clear HA
              simp only [r1_Class.l0] at H
              by_cases c14 : x4_4 < (t167.size : Int)
              rotate_left
              ·
               rw [if_neg c14] at H; have c14b0 : decide (x4_4 < (t167.size : Int)) = false := decide_eq_false c14; clear c14; obtain rfl := oI H
               go_wp2
               go_ret
               exact ⟨sX, dX⟩
              rw [if_pos c14] at H; have c14b0 : decide (x4_4 < (t167.size : Int)) = true := decide_eq_true c14; clear c14
              by_cases c15 : 0 ≤ x4_4
              rotate_left
              ·
               rw [if_neg c15] at H
               exact absurd H (by simp)
              rw [if_pos c15] at H; have c15b0 : decide (0 ≤ x4_4) = true := decide_eq_true c15; clear c15
              by_cases c17 : (bt t167 x4_4) = a0
              rotate_left
              ·
               rw [if_neg c17] at H; obtain ⟨c17b0, c17b1⟩ := bN c17; have H' := aK H; clear H; have p16 : 0 ≤ (x4_4 : Int) := oA; have q16 : x4_4 < (t167.size : Int) := oA
               have hx16 := bt_at t167 x4_4
               replace p16 := eq_true p16; replace q16 := eq_true q16
               go_wp2
               go_roundg k4
               case measure => have := HJ1.out; have := HJ4.out; have := HJ7.out; have := HK4.out; omega
               case rel => exact ⟨(wrap64 (x4_4 + 1)), sX, H', ⟨by have := HJ1.out; have := HJ4.out; have := HJ7.out; have := HK4.out; omega⟩, dX⟩
              rw [if_pos c17] at H; obtain ⟨c17b0, c17b1⟩ := bY c17; clear c17; obtain rfl := oI H; have p16 : 0 ≤ (x4_4 : Int) := oA; have q16 : x4_4 < (t167.size : Int) := oA
              have hx16 := bt_at t167 x4_4
              replace p16 := eq_true p16; replace q16 := eq_true q16
              go_wp2
              go_ret
              exact ⟨sX, dX⟩
           rw [if_pos c12] at H; obtain ⟨c12b0, c12b1⟩ := bY c12; clear c12; obtain rfl := oI H
           go_wp2
           go_ret
           exact ⟨sX, dX⟩
          rw [if_pos c11] at H; obtain ⟨c11b0, c11b1⟩ := bY c11; clear c11; obtain rfl := oI H
          go_wp2
          go_ret
          exact ⟨sX, dX⟩
         subst c10
         have H1 : (some 3) = some r := by rw [if_pos rfl] at H; exact H
         clear H
         have H := H1
         clear H1; obtain rfl := oI H
         go_wp2
         go_ret
         exact ⟨sX, dX⟩
      subst c7
      have H1 : (some 2) = some r := by rw [if_pos rfl] at H; exact H
      clear H
      have H := H1
      clear H1; obtain rfl := oI H
      go_wp2
      go_ret
      exact ⟨sX, dX⟩
   subst c4
   have H1 : (some 1) = some r := by rw [if_pos rfl] at H; exact H
   clear H
   have H := H1
   clear H1; obtain rfl := oI H
   go_wp2
   go_ret
   exact ⟨sX, dX⟩
def r8_Names.f  : Option (List ByteArray) := some (([(⟨#[99, 97, 112]⟩ : ByteArray), (⟨#[99, 97, 112, 115]⟩ : ByteArray), (⟨#[110, 117, 109]⟩ : ByteArray), (⟨#[108, 101, 116]⟩ : ByteArray), (⟨#[101, 43]⟩ : ByteArray), (⟨#[101, 45]⟩ : ByteArray), (⟨#[115, 43]⟩ : ByteArray), (⟨#[115, 45]⟩ : ByteArray), (⟨#[110, 43]⟩ : ByteArray), (⟨#[110, 45]⟩ : ByteArray), (⟨#[98, 108, 107]⟩ : ByteArray), (⟨#[99, 111, 110, 116]⟩ : ByteArray), (⟨#[105, 110, 100]⟩ : ByteArray)] : List ByteArray))
theorem r8_Names.calls  (r : List ByteArray) (w : World) (h : r8_Names.f  = some r) :
  Calls Tryz.prog 74 #[] w fun e w' => ∃ v0_ : Value, e = .returned (v0_) ∧ Kd.R Kd.string 9 w' w.heap.size (fun _ => True) v0_ r ∧ Below w.heap.size w w' := by
 have HB := aK (Below.refl w.heap.size w)
 have H : (some (([(⟨#[99, 97, 112]⟩ : ByteArray), (⟨#[99, 97, 112, 115]⟩ : ByteArray), (⟨#[110, 117, 109]⟩ : ByteArray), (⟨#[108, 101, 116]⟩ : ByteArray), (⟨#[101, 43]⟩ : ByteArray), (⟨#[101, 45]⟩ : ByteArray), (⟨#[115, 43]⟩ : ByteArray), (⟨#[115, 45]⟩ : ByteArray), (⟨#[110, 43]⟩ : ByteArray), (⟨#[110, 45]⟩ : ByteArray), (⟨#[98, 108, 107]⟩ : ByteArray), (⟨#[99, 111, 110, 116]⟩ : ByteArray), (⟨#[105, 110, 100]⟩ : ByteArray)] : List ByteArray))) = some r := h
 clear h
 obtain ⟨y168, hy168⟩ : ∃ y_ : List ByteArray, y_ = (([(⟨#[99, 97, 112]⟩ : ByteArray), (⟨#[99, 97, 112, 115]⟩ : ByteArray), (⟨#[110, 117, 109]⟩ : ByteArray), (⟨#[108, 101, 116]⟩ : ByteArray), (⟨#[101, 43]⟩ : ByteArray), (⟨#[101, 45]⟩ : ByteArray), (⟨#[115, 43]⟩ : ByteArray), (⟨#[115, 45]⟩ : ByteArray), (⟨#[110, 43]⟩ : ByteArray), (⟨#[110, 45]⟩ : ByteArray), (⟨#[98, 108, 107]⟩ : ByteArray), (⟨#[99, 111, 110, 116]⟩ : ByteArray), (⟨#[105, 110, 100]⟩ : ByteArray)] : List ByteArray)) := ⟨_, rfl⟩
 replace H : (some y168) = some r := by first | (rw [hy168]; with_reducible exact H) | (have H2_ := (Option.bind_some _ _).symm.trans H; rw [hy168]; with_reducible exact H2_) | (have H2_ := (Option.bind_some _ _).symm.trans H; with_reducible exact H2_) | with_reducible exact H | (rw [hy168]; exact H) | exact H
 have Ny168 := aK hy168
 clear hy168
 obtain rfl := oI H
 go_enter Tryz.func74, Tryz.ntmps74
 go_wp2_with (first | ((with_reducible refine gate_dst (N := 1) rfl ?_); refine Kd.R_lit Kd.string _ 9 ?hg (N := 1) ?hd (xs := ([(⟨#[99, 97, 112]⟩ : ByteArray), (⟨#[99, 97, 112, 115]⟩ : ByteArray), (⟨#[110, 117, 109]⟩ : ByteArray), (⟨#[108, 101, 116]⟩ : ByteArray), (⟨#[101, 43]⟩ : ByteArray), (⟨#[101, 45]⟩ : ByteArray), (⟨#[115, 43]⟩ : ByteArray), (⟨#[115, 45]⟩ : ByteArray), (⟨#[110, 43]⟩ : ByteArray), (⟨#[110, 45]⟩ : ByteArray), (⟨#[98, 108, 107]⟩ : ByteArray), (⟨#[99, 111, 110, 116]⟩ : ByteArray), (⟨#[105, 110, 100]⟩ : ByteArray)] : List ByteArray)) (inner := [.string (⟨#[99, 97, 112]⟩ : ByteArray), .string (⟨#[99, 97, 112, 115]⟩ : ByteArray), .string (⟨#[110, 117, 109]⟩ : ByteArray), .string (⟨#[108, 101, 116]⟩ : ByteArray), .string (⟨#[101, 43]⟩ : ByteArray), .string (⟨#[101, 45]⟩ : ByteArray), .string (⟨#[115, 43]⟩ : ByteArray), .string (⟨#[115, 45]⟩ : ByteArray), .string (⟨#[110, 43]⟩ : ByteArray), .string (⟨#[110, 45]⟩ : ByteArray), .string (⟨#[98, 108, 107]⟩ : ByteArray), .string (⟨#[99, 111, 110, 116]⟩ : ByteArray), .string (⟨#[105, 110, 100]⟩ : ByteArray)]) (ok := fun _ => True) (okp := fun _ => True) ?hr ?hp (fun _ hk => hk) trivial (Below.refl _ _) (Nat.le_refl _) (by simp) ?_; (case hd => rfl); (case hg => rfl); (case hr => first | (go_simp; done) | (go_simp; rfl)); (case hp => exact (Reps.one (show Kd.M Kd.string _ _ _ (⟨#[99, 97, 112]⟩ : ByteArray) [.string (⟨#[99, 97, 112]⟩ : ByteArray)] from rfl) (Reps.one (show Kd.M Kd.string _ _ _ (⟨#[99, 97, 112, 115]⟩ : ByteArray) [.string (⟨#[99, 97, 112, 115]⟩ : ByteArray)] from rfl) (Reps.one (show Kd.M Kd.string _ _ _ (⟨#[110, 117, 109]⟩ : ByteArray) [.string (⟨#[110, 117, 109]⟩ : ByteArray)] from rfl) (Reps.one (show Kd.M Kd.string _ _ _ (⟨#[108, 101, 116]⟩ : ByteArray) [.string (⟨#[108, 101, 116]⟩ : ByteArray)] from rfl) (Reps.one (show Kd.M Kd.string _ _ _ (⟨#[101, 43]⟩ : ByteArray) [.string (⟨#[101, 43]⟩ : ByteArray)] from rfl) (Reps.one (show Kd.M Kd.string _ _ _ (⟨#[101, 45]⟩ : ByteArray) [.string (⟨#[101, 45]⟩ : ByteArray)] from rfl) (Reps.one (show Kd.M Kd.string _ _ _ (⟨#[115, 43]⟩ : ByteArray) [.string (⟨#[115, 43]⟩ : ByteArray)] from rfl) (Reps.one (show Kd.M Kd.string _ _ _ (⟨#[115, 45]⟩ : ByteArray) [.string (⟨#[115, 45]⟩ : ByteArray)] from rfl) (Reps.one (show Kd.M Kd.string _ _ _ (⟨#[110, 43]⟩ : ByteArray) [.string (⟨#[110, 43]⟩ : ByteArray)] from rfl) (Reps.one (show Kd.M Kd.string _ _ _ (⟨#[110, 45]⟩ : ByteArray) [.string (⟨#[110, 45]⟩ : ByteArray)] from rfl) (Reps.one (show Kd.M Kd.string _ _ _ (⟨#[98, 108, 107]⟩ : ByteArray) [.string (⟨#[98, 108, 107]⟩ : ByteArray)] from rfl) (Reps.one (show Kd.M Kd.string _ _ _ (⟨#[99, 111, 110, 116]⟩ : ByteArray) [.string (⟨#[99, 111, 110, 116]⟩ : ByteArray)] from rfl) (Reps.one (show Kd.M Kd.string _ _ _ (⟨#[105, 110, 100]⟩ : ByteArray) [.string (⟨#[105, 110, 100]⟩ : ByteArray)] from rfl) (Reps.none _ _))))))))))))))); intro v169 w1 ho2 hb hg_ hnew_; clear hg_ hnew_; (first | rw [← Ny168.out] at ho2 | (simp only [Int.reduceToNat] at ho2; rw [← Ny168.out] at ho2)); have HO170 := aK (Kd.R_lower ho2 (bSz bX)); replace HB := aK (bSp bX hb); clear hb ho2))
 go_ret
 exact ⟨_, eX, rX HO170.out, bX⟩
end Go.Proofs.YtbpbniemjjhecaaGreat.PChk
