import Derived.Test.YtbpbniemjjhecaaZPChk0
import Derived.Test.YtbpbniemjjhecaaZPChk3
import Derived.Test.YtbpbniemjjhecaaZPChk10
namespace Go.Proofs.Ytbpbniemjjhecaa.PChk
open Go.RowKit Go.Proofs.Ytbpbniemjjhecaa.G Go.Proofs.YtbpbniemjjhecaaW.PrintWords Go.Proofs.YtbpbniemjjhecaaW.PrintLast Go.Proofs.YtbpbniemjjhecaaW.PrintMore
attribute [local go_sem] max2_int min2_int max_two min_two max_three min_three max_four min_four
set_option linter.unusedVariables false
set_option linter.unusedSimpArgs false
set_option maxHeartbeats 8000000
set_option maxRecDepth 100000
mutual
def r2_Print.j0 : Nat → ByteArray → Bool → Option (ByteArray × Int)
 | 0, _, _ => none
 | k + 1, x0, x13 => if x13 = true then (some ((⟨#[]⟩ : ByteArray), 1)) else (r2_Print.l0 k x0 (⟨#[]⟩ : ByteArray) 0)
def r2_Print.l0 : Nat → ByteArray → ByteArray → Int → Option (ByteArray × Int)
 | 0, _, _, _ => none
 | k + 1, x0, x4, x5 => if x5 < (x0.size : Int) then (if 0 ≤ x5 then (if (bt x0 x5) = 0 then (r2_Print.j2 k x0 x4 x5 true) else (r2_Print.j2 k x0 x4 x5 (decide ((bt x0 x5) > 63)))) else (none)) else (some (x4, 0))
def r2_Print.j2 : Nat → ByteArray → ByteArray → Int → Bool → Option (ByteArray × Int)
 | 0, _, _, _, _ => none
 | k + 1, x0, x4, x5, x29 => if x29 = true then (some ((⟨#[]⟩ : ByteArray), 1)) else (if x5 > 0 then (if x4.size + 1 ≤ 9223372036854775807 then (if 0 ≤ x5 then (if x5 < (x0.size : Int) then ((r2_Dots.f k (bt x0 x5)).bind fun t241 => (if (x4 ++ (⟨#[45]⟩ : ByteArray)).size + t241.size ≤ 9223372036854775807 then (r2_Print.l0 k x0 ((x4 ++ (⟨#[45]⟩ : ByteArray)) ++ t241) (wrap64 (x5 + 1))) else (none))) else (none)) else (none)) else (none)) else (if 0 ≤ x5 then (if x5 < (x0.size : Int) then ((r2_Dots.f k (bt x0 x5)).bind fun t242 => (if x4.size + t242.size ≤ 9223372036854775807 then (r2_Print.l0 k x0 (x4 ++ t242) (wrap64 (x5 + 1))) else (none))) else (none)) else (none)))
end
def r2_Print.f (k : Nat) (a0 : ByteArray) : Option (ByteArray × Int) := if (a0.size : Int) = 0 then (r2_Print.j0 k a0 true) else (r2_Print.j0 k a0 (decide ((a0.size : Int) > 4)))
theorem r2_Print.calls (k : Nat) (a0 : ByteArray) (r1 : ByteArray) (r2 : Int) (w : World) (h : r2_Print.f k a0 = some (r1, r2)) :
  Calls Try.prog 88 #[.string a0] w fun e w' => e = .returned (.tuple #[.string r1, .int .i64 r2]) ∧ Below w.heap.size w w' := by
 have HB := aK (Below.refl w.heap.size w)
 have H : (if (a0.size : Int) = 0 then (r2_Print.j0 k a0 true) else (r2_Print.j0 k a0 (decide ((a0.size : Int) > 4)))) = some (r1, r2) := h
 clear h
 have HC2 := aK H
 clear H
 go_enter Try.func88, Try.ntmps88
 go_upto_region 1 with (fail)
 go_cut [13] (fun v13 wc => ∃ (kq : Nat) (x13_1 : Bool), v13 = .bool x13_1 ∧ Aside0 (r2_Print.j0 kq a0 x13_1 = some (r1, r2)) ∧ Aside0 (kq ≤ k) ∧ Aside0 (Below w.heap.size w wc))
 case first =>
  have H := HC2.out
  clear HC2
  by_cases c3 : (a0.size : Int) = 0
  rotate_left
  ·
   rw [if_neg c3] at H
   have c3b0 : ((a0.size : Int) == 0) = false := beq_eq_false_iff_ne.mpr c3
   have c3b1 : ((a0.size : Int) != 0) = true := bne_iff_ne.mpr c3
   (first | rw [c3b0] | (simp only [i64_w, i32_w]; rw [c3b0]) | skip)
   have H' := aK H
   clear H
   go_wp2
   go_meet
   case rel => exact ⟨_, (decide ((a0.size : Int) > 4)), (by first | rfl | (simp; done) | (simp [*]; done)), H', ⟨by first | omega | exact Nat.le_refl _⟩, ⟨by repeat (first | (with_reducible first | exact HB.out | apply bAl | apply pbD | apply bD1) | exact HB.out)⟩⟩
  rw [if_pos c3] at H
  have c3b0 : ((a0.size : Int) == 0) = true := beq_iff_eq.mpr c3
  have c3b1 : ((a0.size : Int) != 0) = false := bne_eq_false_iff_eq.mpr c3
  clear c3
  (first | rw [c3b0] | (simp only [i64_w, i32_w]; rw [c3b0]) | skip)
  have H' := aK H
  clear H
  go_wp2
  go_meet
  case rel => exact ⟨_, (true), (by first | rfl | (simp; done) | (simp [*]; done)), H', ⟨by first | omega | exact Nat.le_refl _⟩, ⟨by repeat (first | (with_reducible first | exact HB.out | apply bAl | apply pbD | apply bD1) | exact HB.out)⟩⟩
 case rest =>
  clear HC2
  try clear p2
  try clear c3
  try clear c3b0
  try clear c3b1
  obtain ⟨kq, x13_1, rfl, HA, HJ1, HB⟩ := hcut
  cases kq with
  | zero => exact absurd HA.out (by simp [r2_Print.j0])
  | succ kj1 =>
   have H := HA.out
   clear HA
   simp only [r2_Print.j0] at H
   by_cases c4 : x13_1 = true
   rotate_left
   ·
    replace c4 := Bool.eq_false_iff.mpr c4
    subst c4
    have H1 : (r2_Print.l0 kj1 a0 (⟨#[]⟩ : ByteArray) 0) = some (r1, r2) := by rw [if_neg (show ¬ (false = true) by decide)] at H; exact H
    clear H
    have H := H1
    clear H1
    have H' := aK H
    clear H
    go_wp2
    go_loopg [4, 5] kj1 (fun kq v4 v5 w' => ∃ (x4_2 : ByteArray) (x5_2 : Int), v4 = .string x4_2 ∧ v5 = .int .i64 x5_2 ∧ Aside0 (r2_Print.l0 kq a0 x4_2 x5_2 = some (r1, r2)) ∧ Aside0 (kq ≤ kj1) ∧ Aside0 (Below w.heap.size w w'))
    case atStart => exact ⟨((⟨#[]⟩ : ByteArray)), (0), (by first | rfl | (simp; done) | (simp [*]; done)), (by first | rfl | (simp; done) | (simp [*]; done)), H', ⟨Nat.le_refl _⟩, ⟨by repeat (first | (with_reducible first | exact HB.out | apply bAl | apply pbD | apply bD1) | exact HB.out)⟩⟩
    case round =>
     clear H'
     try clear p2
     try clear c3
     try clear c3b0
     try clear c3b1
     try clear c4
     try clear p2
     obtain ⟨x4_2, x5_2, rfl, rfl, HA, HK2, HB⟩ := hrel
     cases gk with
     | zero => exact absurd HA.out (by simp [r2_Print.l0])
     | succ k2 =>
      have H := HA.out
      clear HA
      simp only [r2_Print.l0] at H
      by_cases c5 : x5_2 < (a0.size : Int)
      rotate_left
      ·
       rw [if_neg c5] at H
       have c5b0 : decide (x5_2 < (a0.size : Int)) = false := decide_eq_false c5
       clear c5
       simp only [Option.some.injEq, Prod.mk.injEq] at H
       obtain ⟨rfl, rfl⟩ := H
       go_wp2
       go_ret2
       exact ⟨by first | rfl | (simp [eWn, eWs] <;> rfl) | (simp [*, eWn, eWs] <;> rfl), by repeat (first | (with_reducible first | exact HB.out | apply bAl | apply pbD | apply bD1) | exact HB.out)⟩
      rw [if_pos c5] at H
      have c5b0 : decide (x5_2 < (a0.size : Int)) = true := decide_eq_true c5
      clear c5
      have HC6 := aK H
      clear H
      go_upto_region 7 with (fail)
      go_cut [29] (fun v29 wc => ∃ (kq : Nat) (x29_5 : Bool), v29 = .bool x29_5 ∧ Aside0 (r2_Print.j2 kq a0 x4_2 x5_2 x29_5 = some (r1, r2)) ∧ Aside0 (kq ≤ k2) ∧ Aside0 (Below w.heap.size w wc))
      case first =>
       have H := HC6.out
       clear HC6
       by_cases c7 : 0 ≤ x5_2
       rotate_left
       ·
        rw [if_neg c7] at H
        exact absurd H (by simp)
       rw [if_pos c7] at H
       have c7b0 : decide (0 ≤ x5_2) = true := decide_eq_true c7
       clear c7
       (first | rw [c7b0] | (simp only [i64_w, i32_w]; rw [c7b0]) | skip)
       by_cases c9 : (bt a0 x5_2) = 0
       rotate_left
       ·
        rw [if_neg c9] at H
        have c9b0 : ((bt a0 x5_2) == 0) = false := beq_eq_false_iff_ne.mpr c9
        have c9b1 : ((bt a0 x5_2) != 0) = true := bne_iff_ne.mpr c9
        have H' := aK H
        clear H
        have p8 : 0 ≤ (x5_2 : Int) := odT (by first | (with_reducible assumption) | assumption)
        have q8 : x5_2 < (a0.size : Int) := odT (by first | (with_reducible assumption) | assumption)
        have hx8 := bt_at a0 x5_2
        replace p8 := eq_true p8
        replace q8 := eq_true q8
        have p10 : 0 ≤ (x5_2 : Int) := odT (by first | (with_reducible assumption) | assumption)
        have q10 : x5_2 < (a0.size : Int) := odT (by first | (with_reducible assumption) | assumption)
        have hx10 := bt_at a0 x5_2
        replace p10 := eq_true p10
        replace q10 := eq_true q10
        go_wp2
        go_meet
        case rel => exact ⟨_, (decide ((bt a0 x5_2) > 63)), (by first | rfl | (simp; done) | (simp [*]; done)), H', ⟨by have := HJ1.out; have := HK2.out; first | omega | exact Nat.le_refl _⟩, ⟨by repeat (first | (with_reducible first | exact HB.out | apply bAl | apply pbD | apply bD1) | exact HB.out)⟩⟩
       rw [if_pos c9] at H
       have c9b0 : ((bt a0 x5_2) == 0) = true := beq_iff_eq.mpr c9
       have c9b1 : ((bt a0 x5_2) != 0) = false := bne_eq_false_iff_eq.mpr c9
       clear c9
       have H' := aK H
       clear H
       have p8 : 0 ≤ (x5_2 : Int) := odT (by first | (with_reducible assumption) | assumption)
       have q8 : x5_2 < (a0.size : Int) := odT (by first | (with_reducible assumption) | assumption)
       have hx8 := bt_at a0 x5_2
       replace p8 := eq_true p8
       replace q8 := eq_true q8
       go_wp2
       go_meet
       case rel => exact ⟨_, (true), (by first | rfl | (simp; done) | (simp [*]; done)), H', ⟨by have := HJ1.out; have := HK2.out; first | omega | exact Nat.le_refl _⟩, ⟨by repeat (first | (with_reducible first | exact HB.out | apply bAl | apply pbD | apply bD1) | exact HB.out)⟩⟩
      case rest =>
       clear HC6
       try clear p1
       try clear q1
       try clear hx1
       try clear p2
       try clear c3
       try clear c3b0
       try clear c3b1
       try clear c4
       try clear c5
       try clear c5b0
       try clear c7
       try clear c7b0
       try clear c8
       try clear p8
       try clear q8
       try clear hx8
       try clear c9
       try clear c9b0
       try clear c9b1
       try clear p10
       try clear q10
       try clear hx10
       try clear p10
       try clear p2
       try clear p8
       try clear q10
       try clear q8
       obtain ⟨kq, x29_5, rfl, HA, HJ5, HB⟩ := hcut
       cases kq with
       | zero => exact absurd HA.out (by simp [r2_Print.j2])
       | succ kj5 =>
        have H := HA.out
        clear HA
        simp only [r2_Print.j2] at H
        by_cases c11 : x29_5 = true
        rotate_left
        ·
         replace c11 := Bool.eq_false_iff.mpr c11
         subst c11
         have H1 : (if x5_2 > 0 then (if x4_2.size + 1 ≤ 9223372036854775807 then (if 0 ≤ x5_2 then (if x5_2 < (a0.size : Int) then ((r2_Dots.f kj5 (bt a0 x5_2)).bind fun t241 => (if (x4_2 ++ (⟨#[45]⟩ : ByteArray)).size + t241.size ≤ 9223372036854775807 then (r2_Print.l0 kj5 a0 ((x4_2 ++ (⟨#[45]⟩ : ByteArray)) ++ t241) (wrap64 (x5_2 + 1))) else (none))) else (none)) else (none)) else (none)) else (if 0 ≤ x5_2 then (if x5_2 < (a0.size : Int) then ((r2_Dots.f kj5 (bt a0 x5_2)).bind fun t242 => (if x4_2.size + t242.size ≤ 9223372036854775807 then (r2_Print.l0 kj5 a0 (x4_2 ++ t242) (wrap64 (x5_2 + 1))) else (none))) else (none)) else (none))) = some (r1, r2) := by rw [if_neg (show ¬ (false = true) by decide)] at H; exact H
         clear H
         have H := H1
         clear H1
         by_cases c12 : x5_2 > 0
         rotate_left
         ·
          rw [if_neg c12] at H
          have c12b0 : decide (0 < x5_2) = false := decide_eq_false c12
          clear c12
          by_cases c20 : 0 ≤ x5_2
          rotate_left
          ·
           rw [if_neg c20] at H
           exact absurd H (by simp)
          rw [if_pos c20] at H
          have c20b0 : decide (0 ≤ x5_2) = true := decide_eq_true c20
          clear c20
          by_cases c21 : x5_2 < (a0.size : Int)
          rotate_left
          ·
           rw [if_neg c21] at H
           exact absurd H (by simp)
          rw [if_pos c21] at H
          have c21b0 : decide (x5_2 < (a0.size : Int)) = true := decide_eq_true c21
          clear c21
          replace H := oB H
          obtain ⟨t242, A230, H⟩ := H
          try dsimp only at H
          have A23 := aK A230
          clear A230
          by_cases c24 : x4_2.size + t242.size ≤ 9223372036854775807
          rotate_left
          ·
           rw [if_neg c24] at H
           exact absurd H (by simp)
          rw [if_pos c24] at H
          have c24b0 := eq_true c24
          have c24b1 : decide (x4_2.size + t242.size ≤ 9223372036854775807) = true := decide_eq_true c24
          try have c24b2 : (9223372036854775807 < x4_2.size + t242.size) = False := eq_false (Nat.not_lt.2 c24)
          have H' := aK H
          clear H
          have p22 : 0 ≤ (x5_2 : Int) := odT (by first | (with_reducible assumption) | assumption)
          have q22 : x5_2 < (a0.size : Int) := odT (by first | (with_reducible assumption) | assumption)
          have hx22 := bt_at a0 x5_2
          replace p22 := eq_true p22
          replace q22 := eq_true q22
          go_wp2_with (first | ((with_reducible refine gate_callee (f := 101) rfl ?_); refine goesL_ (some 38) rfl rfl Try.func101 (by kernel_rfl) rfl #[.int .u8 (bt a0 x5_2)] rfl (by (try simp only [qM0, qM1, qM2]); first | done | rfl | (simp only [qD0, qD1]; rfl)) ?_; (with_reducible refine (r2_Dots.calls kj5 (bt a0 x5_2) t242 _ A23.out).mono ?_); rintro e w25 ⟨rfl, hb⟩; refine ⟨_, rfl, ?_⟩; have n0_ := aK (bSp (by repeat (first | (with_reducible first | exact HB.out | apply bAl | apply pbD | apply bD1) | exact HB.out)) hb); clear HB; have HB := n0_; clear n0_; (try clear hb); (try clear hb2); (try clear hk); (try clear hi)))
          go_roundg kj5
          case measure => have := HJ1.out; have := HK2.out; have := HJ5.out; omega
          case rel => exact ⟨(x4_2 ++ t242), (wrap64 (x5_2 + 1)), (by first | rfl | (simp; done) | (simp [*]; done)), (by first | rfl | (simp; done) | (simp [*]; done)), H', ⟨by have := HJ1.out; have := HK2.out; have := HJ5.out; omega⟩, ⟨by repeat (first | (with_reducible first | exact HB.out | apply bAl | apply pbD | apply bD1) | exact HB.out)⟩⟩
         rw [if_pos c12] at H
         have c12b0 : decide (0 < x5_2) = true := decide_eq_true c12
         clear c12
         by_cases c13 : x4_2.size + 1 ≤ 9223372036854775807
         rotate_left
         ·
          rw [if_neg c13] at H
          exact absurd H (by simp)
         rw [if_pos c13] at H
         have c13b0 := eq_true c13
         have c13b1 : decide (x4_2.size + 1 ≤ 9223372036854775807) = true := decide_eq_true c13
         try have c13b2 : (9223372036854775807 < x4_2.size + 1) = False := eq_false (Nat.not_lt.2 c13)
         by_cases c14 : 0 ≤ x5_2
         rotate_left
         ·
          rw [if_neg c14] at H
          exact absurd H (by simp)
         rw [if_pos c14] at H
         have c14b0 : decide (0 ≤ x5_2) = true := decide_eq_true c14
         clear c14
         by_cases c15 : x5_2 < (a0.size : Int)
         rotate_left
         ·
          rw [if_neg c15] at H
          exact absurd H (by simp)
         rw [if_pos c15] at H
         have c15b0 : decide (x5_2 < (a0.size : Int)) = true := decide_eq_true c15
         clear c15
         replace H := oB H
         obtain ⟨t241, A170, H⟩ := H
         try dsimp only at H
         have A17 := aK A170
         clear A170
         by_cases c18 : (x4_2 ++ (⟨#[45]⟩ : ByteArray)).size + t241.size ≤ 9223372036854775807
         rotate_left
         ·
          rw [if_neg c18] at H
          exact absurd H (by simp)
         rw [if_pos c18] at H
         have c18b0 := eq_true c18
         have c18b1 : decide ((x4_2 ++ (⟨#[45]⟩ : ByteArray)).size + t241.size ≤ 9223372036854775807) = true := decide_eq_true c18
         try have c18b2 : (9223372036854775807 < (x4_2 ++ (⟨#[45]⟩ : ByteArray)).size + t241.size) = False := eq_false (Nat.not_lt.2 c18)
         try have c18b2r : (9223372036854775807 < x4_2.size + 1 + t241.size) = False := (by have h_ := c18; simp only [ByteArray.size_append] at h_; exact eq_false (Nat.not_lt.2 h_))
         have H' := aK H
         clear H
         have p16 : 0 ≤ (x5_2 : Int) := odT (by first | (with_reducible assumption) | assumption)
         have q16 : x5_2 < (a0.size : Int) := odT (by first | (with_reducible assumption) | assumption)
         have hx16 := bt_at a0 x5_2
         replace p16 := eq_true p16
         replace q16 := eq_true q16
         go_wp2_with (first | ((with_reducible refine gate_callee (f := 101) rfl ?_); refine goesL_ (some 38) rfl rfl Try.func101 (by kernel_rfl) rfl #[.int .u8 (bt a0 x5_2)] rfl (by (try simp only [qM0, qM1, qM2]); first | done | rfl | (simp only [qD0, qD1]; rfl)) ?_; (with_reducible refine (r2_Dots.calls kj5 (bt a0 x5_2) t241 _ A17.out).mono ?_); rintro e w19 ⟨rfl, hb⟩; refine ⟨_, rfl, ?_⟩; have n0_ := aK (bSp (by repeat (first | (with_reducible first | exact HB.out | apply bAl | apply pbD | apply bD1) | exact HB.out)) hb); clear HB; have HB := n0_; clear n0_; (try clear hb); (try clear hb2); (try clear hk); (try clear hi)))
         go_roundg kj5
         case measure => have := HJ1.out; have := HK2.out; have := HJ5.out; omega
         case rel => exact ⟨((x4_2 ++ (⟨#[45]⟩ : ByteArray)) ++ t241), (wrap64 (x5_2 + 1)), (by first | rfl | (simp; done) | (simp [*]; done)), (by first | rfl | (simp; done) | (simp [*]; done)), H', ⟨by have := HJ1.out; have := HK2.out; have := HJ5.out; omega⟩, ⟨by repeat (first | (with_reducible first | exact HB.out | apply bAl | apply pbD | apply bD1) | exact HB.out)⟩⟩
        subst c11
        have H1 : (some ((⟨#[]⟩ : ByteArray), 1)) = some (r1, r2) := by rw [if_pos rfl] at H; exact H
        clear H
        have H := H1
        clear H1
        simp only [Option.some.injEq, Prod.mk.injEq] at H
        obtain ⟨rfl, rfl⟩ := H
        go_wp2
        go_ret2
        exact ⟨by first | rfl | (simp [eWn, eWs] <;> rfl) | (simp [*, eWn, eWs] <;> rfl), by repeat (first | (with_reducible first | exact HB.out | apply bAl | apply pbD | apply bD1) | exact HB.out)⟩
   subst c4
   have H1 : (some ((⟨#[]⟩ : ByteArray), 1)) = some (r1, r2) := by rw [if_pos rfl] at H; exact H
   clear H
   have H := H1
   clear H1
   simp only [Option.some.injEq, Prod.mk.injEq] at H
   obtain ⟨rfl, rfl⟩ := H
   go_wp2
   go_ret2
   exact ⟨by first | rfl | (simp [eWn, eWs] <;> rfl) | (simp [*, eWn, eWs] <;> rfl), by repeat (first | (with_reducible first | exact HB.out | apply bAl | apply pbD | apply bD1) | exact HB.out)⟩
def r8_May.j0 : Nat → Bool → Int → ByteArray → ByteArray → Int → Int → Option (Bool)
 | 0, _, _, _, _, _, _ => none
 | k + 1, x20, x244000, x244001, x244002, x244003, x244004 => if x20 = true then (some false) else ((r2_Print.f k x244002).bind fun bt245 => (if bt245.2 = 0 then (if x244000 ≤ 5 then (if x244003 ≥ 0 then (some (decide (x244003 ≤ 99))) else (some false)) else (some (x244003 == 0))) else (some false)))
def r8_May.f (k : Nat) (a0_0 : Int) (a0_1 : ByteArray) (a0_2 : ByteArray) (a0_3 : Int) (a0_4 : Int) : Option (Bool) := if a0_0 < 1 then (r8_May.j0 k true a0_0 a0_1 a0_2 a0_3 a0_4) else (if a0_0 > 8 then (r8_May.j0 k true a0_0 a0_1 a0_2 a0_3 a0_4) else ((r8_left.f k a0_0 a0_1).bind fun t244 => (r8_May.j0 k (!t244) a0_0 a0_1 a0_2 a0_3 a0_4)))
theorem r8_May.calls (k : Nat) (a0_0 : Int) (a0_1 : ByteArray) (a0_2 : ByteArray) (a0_3 : Int) (a0_4 : Int) (r : Bool) (w : World) (h : r8_May.f k a0_0 a0_1 a0_2 a0_3 a0_4 = some r) :
  Calls Try.prog 69 #[.agg #[.int .i64 a0_0, .string a0_1, .string a0_2, .int .i64 a0_3, .int .i64 a0_4]] w fun e w' => e = .returned (.bool r) ∧ Below w.heap.size w w' := by
 have hu33 := Try.underlying33
 have HB := aK (Below.refl w.heap.size w)
 have H : (if a0_0 < 1 then (r8_May.j0 k true a0_0 a0_1 a0_2 a0_3 a0_4) else (if a0_0 > 8 then (r8_May.j0 k true a0_0 a0_1 a0_2 a0_3 a0_4) else ((r8_left.f k a0_0 a0_1).bind fun t244 => (r8_May.j0 k (!t244) a0_0 a0_1 a0_2 a0_3 a0_4)))) = some r := h
 clear h
 have HC2 := aK H
 clear H
 go_enter Try.func69, Try.ntmps69
 go_upto_region 1 with (first | ((with_reducible refine gate_dst (N := 1) rfl ?_); refine box_event ?hg (N := 1) ?hd (cs := #[.int .i64 a0_0, .string a0_1, .string a0_2, .int .i64 a0_3, .int .i64 a0_4]) (t := 33) ?hr ?_; (case hd => rfl); (case hg => rfl); (case hr => first | (go_simp; done) | (go_simp; rfl)); intro gb243 hg w3 hbox hb; have n0_ := aK (bSp (by repeat (first | (with_reducible first | exact HB.out | apply bAl | apply pbD | apply bD1) | exact HB.out)) hb); have n1_ := aK (hbox); have n2_ := aK ((by rw [hg]; exact (bSz (by repeat (first | (with_reducible first | exact HB.out | apply bAl | apply pbD | apply bD1) | exact HB.out))) : w.heap.size ≤ gb243)); have n3_ := aK ((by rw [hg]; exact (bSz (by repeat (first | (with_reducible first | exact HB.out | apply bAl | apply pbD | apply bD1) | exact HB.out))) : w.heap.size ≤ gb243)); clear HB; have HB := n0_; have BK243 := n1_; have GW243 := n2_; have GE243 := n3_; clear n0_ n1_ n2_ n3_; clear hb hbox hg))
 (try simp only [Act.put, qSa, qS0, qS1])
 go_cut [20] (fun v20 wc => ∃ (kq : Nat) (x20_1 : Bool), v20 = .bool x20_1 ∧ Aside0 (r8_May.j0 kq x20_1 a0_0 a0_1 a0_2 a0_3 a0_4 = some r) ∧ Aside0 (kq ≤ k) ∧ Aside0 (wc.heap[gb243]? = some (.cells #[.int .i64 a0_0, .string a0_1, .string a0_2, .int .i64 a0_3, .int .i64 a0_4] 33 (0, 0))) ∧ Aside0 (Below w.heap.size w wc))
 case first =>
  have H := HC2.out
  clear HC2
  by_cases c4 : a0_0 < 1
  rotate_left
  ·
   rw [if_neg c4] at H
   have c4b0 : decide (a0_0 < 1) = false := decide_eq_false c4
   clear c4
   (first | rw [c4b0] | (simp only [i64_w, i32_w]; rw [c4b0]) | skip)
   by_cases c6 : a0_0 > 8
   rotate_left
   ·
    rw [if_neg c6] at H
    have c6b0 : decide (8 < a0_0) = false := decide_eq_false c6
    clear c6
    replace H := oB H
    obtain ⟨t244, A80, H⟩ := H
    try dsimp only at H
    have A8 := aK A80
    clear A80
    have H' := aK H
    clear H
    have hcz9_0 : w3.cell? ⟨gb243, 0, none⟩ = some (.int .i64 a0_0) := (kCe BK243.out 0).trans rfl
    have hcz9_1 : w3.cell? ⟨gb243, 1, none⟩ = some (.string a0_1) := (kCe BK243.out 1).trans rfl
    have hcz9_2 : w3.cell? ⟨gb243, 2, none⟩ = some (.string a0_2) := (kCe BK243.out 2).trans rfl
    have hcz9_3 : w3.cell? ⟨gb243, 3, none⟩ = some (.int .i64 a0_3) := (kCe BK243.out 3).trans rfl
    have hcz9_4 : w3.cell? ⟨gb243, 4, none⟩ = some (.int .i64 a0_4) := (kCe BK243.out 4).trans rfl
    go_wp2_with (first | (go_at_call 87; (with_reducible refine (r8_left.calls k a0_0 a0_1 t244 _ A8.out).mono ?_); rintro e w10 ⟨rfl, hb⟩; have n0_ := aK (kBe (g := gb243) (o := .cells #[.int .i64 a0_0, .string a0_1, .string a0_2, .int .i64 a0_3, .int .i64 a0_4] 33 (0, 0)) (by (with_reducible repeat (first | refine kDN ?_ _ | refine kDr ?_ | refine kAl ?_ _)); exact BK243.out) hb); have n1_ := aK (bSp (by repeat (first | (with_reducible first | exact HB.out | apply bAl | apply pbD | apply bD1 | refine bSt ?_ GE243.out) | exact HB.out)) hb); clear BK243; clear HB; have BK243 := n0_; have HB := n1_; clear n0_ n1_; (try clear hb); (try clear hb2); (try clear hk); (try clear hi)))
    go_meet
    case rel => exact ⟨_, (!t244), (by first | rfl | (simp; done) | (simp [*]; done)), H', ⟨by first | omega | exact Nat.le_refl _⟩, ⟨by (with_reducible repeat (first | refine kDN ?_ _ | refine kDr ?_ | refine kAl ?_ _)); exact BK243.out⟩, ⟨by repeat (first | (with_reducible first | exact HB.out | apply bAl | apply pbD | apply bD1 | refine bSt ?_ GE243.out) | exact HB.out)⟩⟩
   rw [if_pos c6] at H
   have c6b0 : decide (8 < a0_0) = true := decide_eq_true c6
   clear c6
   have H' := aK H
   clear H
   have hcz7_0 : w3.cell? ⟨gb243, 0, none⟩ = some (.int .i64 a0_0) := (kCe BK243.out 0).trans rfl
   have hcz7_1 : w3.cell? ⟨gb243, 1, none⟩ = some (.string a0_1) := (kCe BK243.out 1).trans rfl
   have hcz7_2 : w3.cell? ⟨gb243, 2, none⟩ = some (.string a0_2) := (kCe BK243.out 2).trans rfl
   have hcz7_3 : w3.cell? ⟨gb243, 3, none⟩ = some (.int .i64 a0_3) := (kCe BK243.out 3).trans rfl
   have hcz7_4 : w3.cell? ⟨gb243, 4, none⟩ = some (.int .i64 a0_4) := (kCe BK243.out 4).trans rfl
   go_wp2
   go_meet
   case rel => exact ⟨_, (true), (by first | rfl | (simp; done) | (simp [*]; done)), H', ⟨by first | omega | exact Nat.le_refl _⟩, ⟨by (with_reducible repeat (first | refine kDN ?_ _ | refine kDr ?_ | refine kAl ?_ _)); exact BK243.out⟩, ⟨by repeat (first | (with_reducible first | exact HB.out | apply bAl | apply pbD | apply bD1 | refine bSt ?_ GE243.out) | exact HB.out)⟩⟩
  rw [if_pos c4] at H
  have c4b0 : decide (a0_0 < 1) = true := decide_eq_true c4
  clear c4
  (first | rw [c4b0] | (simp only [i64_w, i32_w]; rw [c4b0]) | skip)
  have H' := aK H
  clear H
  have hcz5_0 : w3.cell? ⟨gb243, 0, none⟩ = some (.int .i64 a0_0) := (kCe BK243.out 0).trans rfl
  have hcz5_1 : w3.cell? ⟨gb243, 1, none⟩ = some (.string a0_1) := (kCe BK243.out 1).trans rfl
  have hcz5_2 : w3.cell? ⟨gb243, 2, none⟩ = some (.string a0_2) := (kCe BK243.out 2).trans rfl
  have hcz5_3 : w3.cell? ⟨gb243, 3, none⟩ = some (.int .i64 a0_3) := (kCe BK243.out 3).trans rfl
  have hcz5_4 : w3.cell? ⟨gb243, 4, none⟩ = some (.int .i64 a0_4) := (kCe BK243.out 4).trans rfl
  go_wp2
  go_meet
  case rel => exact ⟨_, (true), (by first | rfl | (simp; done) | (simp [*]; done)), H', ⟨by first | omega | exact Nat.le_refl _⟩, ⟨by (with_reducible repeat (first | refine kDN ?_ _ | refine kDr ?_ | refine kAl ?_ _)); exact BK243.out⟩, ⟨by repeat (first | (with_reducible first | exact HB.out | apply bAl | apply pbD | apply bD1 | refine bSt ?_ GE243.out) | exact HB.out)⟩⟩
 case rest =>
  clear HC2
  try clear p2
  try clear c4
  try clear c4b0
  try clear c6
  try clear c6b0
  try clear hcz5_0
  try clear hcz5_1
  try clear hcz5_2
  try clear hcz5_3
  try clear hcz5_4
  try clear hcz7_0
  try clear hcz7_1
  try clear hcz7_2
  try clear hcz7_3
  try clear hcz7_4
  try clear hcz9_0
  try clear hcz9_1
  try clear hcz9_2
  try clear hcz9_3
  try clear hcz9_4
  obtain ⟨kq, x20_1, rfl, HA, HJ1, BK243, HB⟩ := hcut
  cases kq with
  | zero => exact absurd HA.out (by simp [r8_May.j0])
  | succ kj1 =>
   have H := HA.out
   clear HA
   simp only [r8_May.j0] at H
   by_cases c11 : x20_1 = true
   rotate_left
   ·
    replace c11 := Bool.eq_false_iff.mpr c11
    subst c11
    have H1 : ((r2_Print.f kj1 a0_2).bind fun bt245 => (if bt245.2 = 0 then (if a0_0 ≤ 5 then (if a0_3 ≥ 0 then (some (decide (a0_3 ≤ 99))) else (some false)) else (some (a0_3 == 0))) else (some false))) = some r := by rw [if_neg (show ¬ (false = true) by decide)] at H; exact H
    clear H
    have H := H1
    clear H1
    replace H := oB H
    obtain ⟨⟨t245, t246⟩, A120, H⟩ := H
    try dsimp only at H
    have A12 := aK A120
    clear A120
    by_cases c13 : t246 = 0
    rotate_left
    ·
     rw [if_neg c13] at H
     have c13b0 : (t246 == 0) = false := beq_eq_false_iff_ne.mpr c13
     have c13b1 : (t246 != 0) = true := bne_iff_ne.mpr c13
     obtain rfl := oI H
     have hcz25_0 : wc.cell? ⟨gb243, 0, none⟩ = some (.int .i64 a0_0) := (kCe BK243.out 0).trans rfl
     have hcz25_1 : wc.cell? ⟨gb243, 1, none⟩ = some (.string a0_1) := (kCe BK243.out 1).trans rfl
     have hcz25_2 : wc.cell? ⟨gb243, 2, none⟩ = some (.string a0_2) := (kCe BK243.out 2).trans rfl
     have hcz25_3 : wc.cell? ⟨gb243, 3, none⟩ = some (.int .i64 a0_3) := (kCe BK243.out 3).trans rfl
     have hcz25_4 : wc.cell? ⟨gb243, 4, none⟩ = some (.int .i64 a0_4) := (kCe BK243.out 4).trans rfl
     go_wp2_with (first | ((with_reducible refine gate_callee (f := 88) rfl ?_); refine goesL_ (some 24) rfl rfl Try.func88 (by kernel_rfl) rfl #[.string a0_2] rfl (by (try simp only [qM0, qM1, qM2]); first | done | rfl | (simp only [qD0, qD1]; rfl)) ?_; (with_reducible refine (r2_Print.calls kj1 a0_2 t245 t246 _ A12.out).mono ?_); rintro e w26 ⟨rfl, hb⟩; refine ⟨_, rfl, ?_⟩; have n0_ := aK (kBe (g := gb243) (o := .cells #[.int .i64 a0_0, .string a0_1, .string a0_2, .int .i64 a0_3, .int .i64 a0_4] 33 (0, 0)) (by (with_reducible repeat (first | refine kDN ?_ _ | refine kDr ?_ | refine kAl ?_ _)); exact BK243.out) hb); have n1_ := aK (bSp (by repeat (first | (with_reducible first | exact HB.out | apply bAl | apply pbD | apply bD1 | refine bSt ?_ GE243.out) | exact HB.out)) hb); clear BK243; clear HB; have BK243 := n0_; have HB := n1_; clear n0_ n1_; (try clear hb); (try clear hb2); (try clear hk); (try clear hi)))
     go_ret
     exact ⟨by first | rfl | (simp [eWn, eWs] <;> rfl) | (simp [*, eWn, eWs] <;> rfl), by repeat (first | (with_reducible first | exact HB.out | apply bAl | apply pbD | apply bD1 | refine bSt ?_ GE243.out) | exact HB.out)⟩
    rw [if_pos c13] at H
    have c13b0 : (t246 == 0) = true := beq_iff_eq.mpr c13
    have c13b1 : (t246 != 0) = false := bne_eq_false_iff_eq.mpr c13
    clear c13
    by_cases c14 : a0_0 ≤ 5
    rotate_left
    ·
     rw [if_neg c14] at H
     have c14b0 : decide (a0_0 ≤ 5) = false := decide_eq_false c14
     clear c14
     obtain rfl := oI H
     have hcz22_0 : wc.cell? ⟨gb243, 0, none⟩ = some (.int .i64 a0_0) := (kCe BK243.out 0).trans rfl
     have hcz22_1 : wc.cell? ⟨gb243, 1, none⟩ = some (.string a0_1) := (kCe BK243.out 1).trans rfl
     have hcz22_2 : wc.cell? ⟨gb243, 2, none⟩ = some (.string a0_2) := (kCe BK243.out 2).trans rfl
     have hcz22_3 : wc.cell? ⟨gb243, 3, none⟩ = some (.int .i64 a0_3) := (kCe BK243.out 3).trans rfl
     have hcz22_4 : wc.cell? ⟨gb243, 4, none⟩ = some (.int .i64 a0_4) := (kCe BK243.out 4).trans rfl
     go_wp2_with (first | ((with_reducible refine gate_callee (f := 88) rfl ?_); refine goesL_ (some 24) rfl rfl Try.func88 (by kernel_rfl) rfl #[.string a0_2] rfl (by (try simp only [qM0, qM1, qM2]); first | done | rfl | (simp only [qD0, qD1]; rfl)) ?_; (with_reducible refine (r2_Print.calls kj1 a0_2 t245 t246 _ A12.out).mono ?_); rintro e w23 ⟨rfl, hb⟩; refine ⟨_, rfl, ?_⟩; have n0_ := aK (kBe (g := gb243) (o := .cells #[.int .i64 a0_0, .string a0_1, .string a0_2, .int .i64 a0_3, .int .i64 a0_4] 33 (0, 0)) (by (with_reducible repeat (first | refine kDN ?_ _ | refine kDr ?_ | refine kAl ?_ _)); exact BK243.out) hb); have n1_ := aK (bSp (by repeat (first | (with_reducible first | exact HB.out | apply bAl | apply pbD | apply bD1 | refine bSt ?_ GE243.out) | exact HB.out)) hb); clear BK243; clear HB; have BK243 := n0_; have HB := n1_; clear n0_ n1_; (try clear hb); (try clear hb2); (try clear hk); (try clear hi); have hcz24_0 : w23.cell? ⟨gb243, 0, none⟩ = some (.int .i64 a0_0) := (kCe BK243.out 0).trans rfl; have hcz24_1 : w23.cell? ⟨gb243, 1, none⟩ = some (.string a0_1) := (kCe BK243.out 1).trans rfl; have hcz24_2 : w23.cell? ⟨gb243, 2, none⟩ = some (.string a0_2) := (kCe BK243.out 2).trans rfl; have hcz24_3 : w23.cell? ⟨gb243, 3, none⟩ = some (.int .i64 a0_3) := (kCe BK243.out 3).trans rfl; have hcz24_4 : w23.cell? ⟨gb243, 4, none⟩ = some (.int .i64 a0_4) := (kCe BK243.out 4).trans rfl))
     go_ret
     exact ⟨by first | rfl | (simp [eWn, eWs] <;> rfl) | (simp [*, eWn, eWs] <;> rfl), by repeat (first | (with_reducible first | exact HB.out | apply bAl | apply pbD | apply bD1 | refine bSt ?_ GE243.out) | exact HB.out)⟩
    rw [if_pos c14] at H
    have c14b0 : decide (a0_0 ≤ 5) = true := decide_eq_true c14
    clear c14
    by_cases c15 : a0_3 ≥ 0
    rotate_left
    ·
     rw [if_neg c15] at H
     have c15b0 : decide (0 ≤ a0_3) = false := decide_eq_false c15
     clear c15
     obtain rfl := oI H
     have hcz19_0 : wc.cell? ⟨gb243, 0, none⟩ = some (.int .i64 a0_0) := (kCe BK243.out 0).trans rfl
     have hcz19_1 : wc.cell? ⟨gb243, 1, none⟩ = some (.string a0_1) := (kCe BK243.out 1).trans rfl
     have hcz19_2 : wc.cell? ⟨gb243, 2, none⟩ = some (.string a0_2) := (kCe BK243.out 2).trans rfl
     have hcz19_3 : wc.cell? ⟨gb243, 3, none⟩ = some (.int .i64 a0_3) := (kCe BK243.out 3).trans rfl
     have hcz19_4 : wc.cell? ⟨gb243, 4, none⟩ = some (.int .i64 a0_4) := (kCe BK243.out 4).trans rfl
     go_wp2_with (first | ((with_reducible refine gate_callee (f := 88) rfl ?_); refine goesL_ (some 24) rfl rfl Try.func88 (by kernel_rfl) rfl #[.string a0_2] rfl (by (try simp only [qM0, qM1, qM2]); first | done | rfl | (simp only [qD0, qD1]; rfl)) ?_; (with_reducible refine (r2_Print.calls kj1 a0_2 t245 t246 _ A12.out).mono ?_); rintro e w20 ⟨rfl, hb⟩; refine ⟨_, rfl, ?_⟩; have n0_ := aK (kBe (g := gb243) (o := .cells #[.int .i64 a0_0, .string a0_1, .string a0_2, .int .i64 a0_3, .int .i64 a0_4] 33 (0, 0)) (by (with_reducible repeat (first | refine kDN ?_ _ | refine kDr ?_ | refine kAl ?_ _)); exact BK243.out) hb); have n1_ := aK (bSp (by repeat (first | (with_reducible first | exact HB.out | apply bAl | apply pbD | apply bD1 | refine bSt ?_ GE243.out) | exact HB.out)) hb); clear BK243; clear HB; have BK243 := n0_; have HB := n1_; clear n0_ n1_; (try clear hb); (try clear hb2); (try clear hk); (try clear hi); have hcz21_0 : w20.cell? ⟨gb243, 0, none⟩ = some (.int .i64 a0_0) := (kCe BK243.out 0).trans rfl; have hcz21_1 : w20.cell? ⟨gb243, 1, none⟩ = some (.string a0_1) := (kCe BK243.out 1).trans rfl; have hcz21_2 : w20.cell? ⟨gb243, 2, none⟩ = some (.string a0_2) := (kCe BK243.out 2).trans rfl; have hcz21_3 : w20.cell? ⟨gb243, 3, none⟩ = some (.int .i64 a0_3) := (kCe BK243.out 3).trans rfl; have hcz21_4 : w20.cell? ⟨gb243, 4, none⟩ = some (.int .i64 a0_4) := (kCe BK243.out 4).trans rfl))
     go_ret
     exact ⟨by first | rfl | (simp [eWn, eWs] <;> rfl) | (simp [*, eWn, eWs] <;> rfl), by repeat (first | (with_reducible first | exact HB.out | apply bAl | apply pbD | apply bD1 | refine bSt ?_ GE243.out) | exact HB.out)⟩
    rw [if_pos c15] at H
    have c15b0 : decide (0 ≤ a0_3) = true := decide_eq_true c15
    clear c15
    obtain rfl := oI H
    have hcz16_0 : wc.cell? ⟨gb243, 0, none⟩ = some (.int .i64 a0_0) := (kCe BK243.out 0).trans rfl
    have hcz16_1 : wc.cell? ⟨gb243, 1, none⟩ = some (.string a0_1) := (kCe BK243.out 1).trans rfl
    have hcz16_2 : wc.cell? ⟨gb243, 2, none⟩ = some (.string a0_2) := (kCe BK243.out 2).trans rfl
    have hcz16_3 : wc.cell? ⟨gb243, 3, none⟩ = some (.int .i64 a0_3) := (kCe BK243.out 3).trans rfl
    have hcz16_4 : wc.cell? ⟨gb243, 4, none⟩ = some (.int .i64 a0_4) := (kCe BK243.out 4).trans rfl
    go_wp2_with (first | ((with_reducible refine gate_callee (f := 88) rfl ?_); refine goesL_ (some 24) rfl rfl Try.func88 (by kernel_rfl) rfl #[.string a0_2] rfl (by (try simp only [qM0, qM1, qM2]); first | done | rfl | (simp only [qD0, qD1]; rfl)) ?_; (with_reducible refine (r2_Print.calls kj1 a0_2 t245 t246 _ A12.out).mono ?_); rintro e w17 ⟨rfl, hb⟩; refine ⟨_, rfl, ?_⟩; have n0_ := aK (kBe (g := gb243) (o := .cells #[.int .i64 a0_0, .string a0_1, .string a0_2, .int .i64 a0_3, .int .i64 a0_4] 33 (0, 0)) (by (with_reducible repeat (first | refine kDN ?_ _ | refine kDr ?_ | refine kAl ?_ _)); exact BK243.out) hb); have n1_ := aK (bSp (by repeat (first | (with_reducible first | exact HB.out | apply bAl | apply pbD | apply bD1 | refine bSt ?_ GE243.out) | exact HB.out)) hb); clear BK243; clear HB; have BK243 := n0_; have HB := n1_; clear n0_ n1_; (try clear hb); (try clear hb2); (try clear hk); (try clear hi); have hcz18_0 : w17.cell? ⟨gb243, 0, none⟩ = some (.int .i64 a0_0) := (kCe BK243.out 0).trans rfl; have hcz18_1 : w17.cell? ⟨gb243, 1, none⟩ = some (.string a0_1) := (kCe BK243.out 1).trans rfl; have hcz18_2 : w17.cell? ⟨gb243, 2, none⟩ = some (.string a0_2) := (kCe BK243.out 2).trans rfl; have hcz18_3 : w17.cell? ⟨gb243, 3, none⟩ = some (.int .i64 a0_3) := (kCe BK243.out 3).trans rfl; have hcz18_4 : w17.cell? ⟨gb243, 4, none⟩ = some (.int .i64 a0_4) := (kCe BK243.out 4).trans rfl))
    go_ret
    exact ⟨by first | rfl | (simp [eWn, eWs] <;> rfl) | (simp [*, eWn, eWs] <;> rfl), by repeat (first | (with_reducible first | exact HB.out | apply bAl | apply pbD | apply bD1 | refine bSt ?_ GE243.out) | exact HB.out)⟩
   subst c11
   have H1 : (some false) = some r := by rw [if_pos rfl] at H; exact H
   clear H
   have H := H1
   clear H1
   obtain rfl := oI H
   go_wp2
   go_ret
   exact ⟨by first | rfl | (simp [eWn, eWs] <;> rfl) | (simp [*, eWn, eWs] <;> rfl), by repeat (first | (with_reducible first | exact HB.out | apply bAl | apply pbD | apply bD1 | refine bSt ?_ GE243.out) | exact HB.out)⟩
end Go.Proofs.Ytbpbniemjjhecaa.PChk
