import Derived.Test.YtbpbniemjjhecaaGreatZPChk0
import Derived.Test.YtbpbniemjjhecaaGreatZPChk2
namespace Go.Proofs.YtbpbniemjjhecaaGreat.PChk
open Go.RowKit Go.Proofs.YtbpbniemjjhecaaGreat.G Go.Proofs.YtbpbniemjjhecaaGreatW.PrintWords Go.Proofs.YtbpbniemjjhecaaGreatW.PrintLast Go.Proofs.YtbpbniemjjhecaaGreatW.PrintMore
attribute [local go_sem] max2_int min2_int max_two min_two max_three min_three max_four min_four
set_option linter.unusedVariables false
set_option linter.unusedSimpArgs false
set_option maxHeartbeats 8000000
set_option maxRecDepth 100000
def slices_Index_string_string.l0 : Nat → List ByteArray → ByteArray → Int → Int → Option (Int)
 | 0, _, _, _, _ => none
 | k + 1, x0, x1, x7, x8 => if x8 < x7 then (if 0 ≤ x8 then (if x8 < (x0.length : Int) then (if x1.toList = (rdOf ByteArray.empty x0 x8).toList then (some x8) else (slices_Index_string_string.l0 k x0 x1 x7 (wrap64 (x8 + 1)))) else (none)) else (none)) else (some (-1))
def slices_Index_string_string.f (k : Nat) (l0 : List ByteArray) (a1 : ByteArray) : Option (Int) := slices_Index_string_string.l0 k l0 a1 (l0.length : Int) 0
theorem slices_Index_string_string.calls (k : Nat) (A0 : Option Addr) (c0 : Nat) (l0 : List ByteArray) (a1 : ByteArray) (r : Int) (w : World) (hr0 : Kd.C Kd.string w A0 l0.length l0) (hc0 : l0.length ≤ c0) (h : slices_Index_string_string.f k l0 a1 = some r) :
  Calls Tryz.prog 153 #[.slice A0 l0.length c0, .string a1] w fun e w' => e = .returned (.int .i64 r) ∧ Drawn0 w w' := by
 have HR0 := aK hr0
 have HC0 := aK hc0
 clear hr0 hc0
 have H : (slices_Index_string_string.l0 k l0 a1 (l0.length : Int) 0) = some r := h
 clear h
 have H' := aK H
 clear H
 go_enter Tryz.func153, Tryz.ntmps153
 go_wp2
 go_loopg [8] k (fun kq v8 w' => ∃ (x8_1 : Int), v8 = .int .i64 x8_1 ∧ Aside0 (slices_Index_string_string.l0 kq l0 a1 (l0.length : Int) x8_1 = some r) ∧ Aside0 (kq ≤ k) ∧ Drawn0 w w')
 case atStart => exact ⟨(0), sX, H', ⟨Nat.le_refl _⟩, dX⟩
 case round =>
  clear H'
  try clear c1
  try clear p2
  obtain ⟨x8_1, rfl, HA, HK1, ⟨m1, rfl⟩⟩ := hrel
  cases gk with
  | zero => exact absurd HA.out (by simp [slices_Index_string_string.l0])
  | succ k1 =>
   have H := HA.out; clear HA
   simp only [slices_Index_string_string.l0] at H
   by_cases c3 : x8_1 < (l0.length : Int)
   rotate_left
   ·
    rw [if_neg c3] at H; have c3b0 : decide (x8_1 < (l0.length : Int)) = false := decide_eq_false c3; clear c3; obtain rfl := oI H
    go_wp2
    go_ret
    exact ⟨sX, dX⟩
   rw [if_pos c3] at H; have c3b0 : decide (x8_1 < (l0.length : Int)) = true := decide_eq_true c3; clear c3
   by_cases c4 : 0 ≤ x8_1
   rotate_left
   ·
    rw [if_neg c4] at H
    exact absurd H (by simp)
   rw [if_pos c4] at H; have c4b0 : decide (0 ≤ x8_1) = true := decide_eq_true c4; clear c4
   by_cases c5 : x8_1 < (l0.length : Int)
   rotate_left
   ·
    rw [if_neg c5] at H
    exact absurd H (by simp)
   rw [if_pos c5] at H; have c5b0 : decide (x8_1 < (l0.length : Int)) = true := decide_eq_true c5; clear c5
   by_cases c6 : a1.toList = (rdOf ByteArray.empty l0 x8_1).toList
   rotate_left
   ·
    rw [if_neg c6] at H; obtain ⟨c6b0, c6b1⟩ := bN c6; have H' := aK H; clear H; have p131 : 0 ≤ (x8_1 : Int) := oA; have q131 : x8_1 < (l0.length : Int) := oA
    obtain ⟨ad131, e131, hx131_0⟩ := Kd.at_string HR0.out x8_1 p131 q131
    cases e131
    replace p131 := eq_true p131; replace q131 := eq_true q131
    go_wp2
    go_roundg k1
    case measure => have := HK1.out; omega
    case rel => exact ⟨(wrap64 (x8_1 + 1)), sX, H', ⟨by have := HK1.out; omega⟩, dX⟩
   rw [if_pos c6] at H; obtain ⟨c6b0, c6b1⟩ := bY c6; clear c6; obtain rfl := oI H; have p131 : 0 ≤ (x8_1 : Int) := oA; have q131 : x8_1 < (l0.length : Int) := oA
   obtain ⟨ad131, e131, hx131_0⟩ := Kd.at_string HR0.out x8_1 p131 q131
   cases e131
   replace p131 := eq_true p131; replace q131 := eq_true q131
   go_wp2
   go_ret
   exact ⟨sX, dX⟩
def slices_Contains_string_string.f (k : Nat) (l0 : List ByteArray) (a1 : ByteArray) : Option (Bool) := (slices_Index_string_string.f k l0 a1).bind fun t132 => (some (decide (t132 ≥ 0)))
theorem slices_Contains_string_string.calls (k : Nat) (A0 : Option Addr) (c0 : Nat) (l0 : List ByteArray) (a1 : ByteArray) (r : Bool) (w : World) (hr0 : Kd.C Kd.string w A0 l0.length l0) (hc0 : l0.length ≤ c0) (h : slices_Contains_string_string.f k l0 a1 = some r) :
  Calls Tryz.prog 147 #[.slice A0 l0.length c0, .string a1] w fun e w' => e = .returned (.bool r) ∧ Drawn0 w w' := by
 have HR0 := aK hr0
 have HC0 := aK hc0
 clear hr0 hc0
 have H : ((slices_Index_string_string.f k l0 a1).bind fun t132 => (some (decide (t132 ≥ 0)))) = some r := h
 clear h
 replace H := oB H
 obtain ⟨t132, A30, H⟩ := H
 replace H : (some (decide (t132 ≥ 0))) = some r := H
 have A3 := aK A30
 clear A30
 obtain rfl := oI H
 go_enter Tryz.func147, Tryz.ntmps147
 go_wp2_with (first | ((with_reducible refine gate_callee (f := 153) rfl ?_); refine gO 7 Tryz.func153 #[.slice A0 l0.length c0, .string a1] ?_; (with_reducible refine (slices_Index_string_string.calls k _ _ l0 a1 t132 _ ?side1 ?side2 A3.out).mono ?_); (case side1 => repeat (first | exact HR0.out | (with_reducible refine Kd.C_alloc ?_ _) | (with_reducible refine Kd.C_drewN ?_ _) | (with_reducible refine Kd.C_drew ?_))); (case side2 => exact HC0.out); rintro e w' ⟨rfl, ⟨nd, rfl⟩⟩; refine ⟨_, rfl, ?_⟩))
 go_ret
 exact ⟨sX, dX⟩
def rules_left.f (k : Nat) (a0 : Int) (a1 : ByteArray) : Option (Bool) := if a0 = 6 then (if (a1.size : Int) = 1 then (if 0 < (a1.size : Int) then ((chars_Class.f (bt a1 0)).bind fun t133 => (some (t133 == 4))) else (none)) else (some false)) else (if a0 = 7 then (if (a1.size : Int) = 1 then (if 0 < (a1.size : Int) then ((chars_Class.f (bt a1 0)).bind fun t134 => (some (t134 == 3))) else (none)) else (some false)) else (if a0 = 8 then ((rules_Names.f).bind fun t135 => ((slices_Contains_string_string.f k t135 a1).bind fun t138 => (some t138))) else ((rules_letters.f a0).bind fun t139 => (if t139 = true then (if (a1.size : Int) ≤ 12 then ((chars_Case.f a1).bind fun t140 => (some (t140 == 1))) else (some false)) else (some false)))))
theorem rules_left.calls (k : Nat) (a0 : Int) (a1 : ByteArray) (r : Bool) (w : World) (h : rules_left.f k a0 a1 = some r) :
  Calls Tryz.prog 131 #[.int .i64 a0, .string a1] w fun e w' => e = .returned (.bool r) ∧ Below w.heap.size w w' := by
 have HB := aK (Below.refl w.heap.size w)
 have H : (if a0 = 6 then (if (a1.size : Int) = 1 then (if 0 < (a1.size : Int) then ((chars_Class.f (bt a1 0)).bind fun t133 => (some (t133 == 4))) else (none)) else (some false)) else (if a0 = 7 then (if (a1.size : Int) = 1 then (if 0 < (a1.size : Int) then ((chars_Class.f (bt a1 0)).bind fun t134 => (some (t134 == 3))) else (none)) else (some false)) else (if a0 = 8 then ((rules_Names.f).bind fun t135 => ((slices_Contains_string_string.f k t135 a1).bind fun t138 => (some t138))) else ((rules_letters.f a0).bind fun t139 => (if t139 = true then (if (a1.size : Int) ≤ 12 then ((chars_Case.f a1).bind fun t140 => (some (t140 == 1))) else (some false)) else (some false)))))) = some r := h
 clear h
 by_cases c3 : a0 = 6
 rotate_left
 ·
  rw [if_neg c3] at H; obtain ⟨c3b0, c3b1⟩ := bN c3
  by_cases c9 : a0 = 7
  rotate_left
  ·
   rw [if_neg c9] at H; obtain ⟨c9b0, c9b1⟩ := bN c9
   by_cases c15 : a0 = 8
   rotate_left
   ·
    rw [if_neg c15] at H; obtain ⟨c15b0, c15b1⟩ := bN c15; obtain ⟨t139, A20, H⟩ := oC H
    try dsimp only at H
    by_cases c21 : t139 = true
    rotate_left
    ·
     replace c21 := Bool.eq_false_iff.mpr c21; subst c21
     have H1 : (some false) = some r := by rw [if_neg (show ¬ (false = true) by decide)] at H; exact H
     clear H
     have H := H1
     clear H1; obtain rfl := oI H
     go_enter Tryz.func131, Tryz.ntmps131
     go_wp2_with (first | ((with_reducible refine gate_callee (f := 132) rfl ?_); refine gO 34 Tryz.func132 #[.int .i64 a0] ?_; (with_reducible refine (rules_letters.calls a0 false _ A20.out).mono ?_); rintro e w' ⟨rfl, ⟨nd, rfl⟩⟩; refine ⟨_, rfl, ?_⟩))
     go_ret
     exact ⟨eX, bX⟩
    subst c21
    have H1 : (if (a1.size : Int) ≤ 12 then ((chars_Case.f a1).bind fun t140 => (some (t140 == 1))) else (some false)) = some r := by rw [if_pos rfl] at H; exact H
    clear H
    have H := H1
    clear H1
    by_cases c22 : (a1.size : Int) ≤ 12
    rotate_left
    ·
     rw [if_neg c22] at H; have c22b0 : decide ((a1.size : Int) ≤ 12) = false := decide_eq_false c22
     have c22b1 : decide (a1.size ≤ 12) = false := decide_eq_false (by omega)
     clear c22; obtain rfl := oI H
     go_enter Tryz.func131, Tryz.ntmps131
     go_wp2_with (first | ((with_reducible refine gate_callee (f := 132) rfl ?_); refine gO 34 Tryz.func132 #[.int .i64 a0] ?_; (with_reducible refine (rules_letters.calls a0 true _ A20.out).mono ?_); rintro e w' ⟨rfl, ⟨nd, rfl⟩⟩; refine ⟨_, rfl, ?_⟩))
     go_ret
     exact ⟨eX, bX⟩
    rw [if_pos c22] at H; have c22b0 : decide ((a1.size : Int) ≤ 12) = true := decide_eq_true c22
    have c22b1 : decide (a1.size ≤ 12) = true := decide_eq_true (by omega)
    clear c22
    replace H := oB H
    obtain ⟨t140, A230, H⟩ := H
    replace H : (some (t140 == 1)) = some r := H
    have A23 := aK A230; clear A230; obtain rfl := oI H
    go_enter Tryz.func131, Tryz.ntmps131
    go_wp2_with (first | ((with_reducible refine gate_callee (f := 132) rfl ?_); refine gO 34 Tryz.func132 #[.int .i64 a0] ?_; (with_reducible refine (rules_letters.calls a0 true _ A20.out).mono ?_); rintro e w' ⟨rfl, ⟨nd, rfl⟩⟩; refine ⟨_, rfl, ?_⟩) | (go_at_call 49; (with_reducible refine (chars_Case.calls a1 t140 _ A23.out).mono ?_); rintro e w24 ⟨rfl, hb⟩; replace HB := aK (bSp bX hb); clear hb))
    go_ret
    exact ⟨eX, bX⟩
   rw [if_pos c15] at H; obtain ⟨c15b0, c15b1⟩ := bY c15; clear c15; obtain ⟨t135, A16, H⟩ := oC H
   try dsimp only at H
   replace H := oB H
   obtain ⟨t138, A170, H⟩ := H
   replace H : (some t138) = some r := H
   have A17 := aK A170; clear A170; obtain rfl := oI H
   go_enter Tryz.func131, Tryz.ntmps131
   go_wp2_with (first | ((with_reducible refine gate_callee (f := 136) rfl ?_); refine gO 30 Tryz.func136 #[] ?_; (with_reducible refine (rules_Names.calls  t135 _ A16.out).mono ?_); rintro e w18 ⟨v136, rfl, ho0, hb⟩; refine ⟨_, rfl, ?_⟩; have HO137 := aK (Kd.R_lower ho0 (bSz bX)); replace HB := aK (bSp bX hb); clear hb; clear ho0; obtain ⟨Ao19, co19, eo19⟩ := Kd.R_slice HO137.out; subst eo19) | ((with_reducible refine gate_callee (f := 147) rfl ?_); refine gO 32 Tryz.func147 #[.slice Ao19 t135.length co19, .string a1] ?_; (with_reducible refine (slices_Contains_string_string.calls k _ _ t135 a1 t138 _ ?side1 ?side2 A17.out).mono ?_); (case side1 => repeat (first | exact (Kd.R_reads' HO137.out).2.2 | (with_reducible refine Kd.C_alloc ?_ _) | (with_reducible refine Kd.C_drewN ?_ _) | (with_reducible refine Kd.C_drew ?_))); (case side2 => exact (Kd.R_reads' HO137.out).2.1); rintro e w' ⟨rfl, ⟨nd, rfl⟩⟩; refine ⟨_, rfl, ?_⟩))
   go_ret
   exact ⟨eX, bX⟩
  rw [if_pos c9] at H; obtain ⟨c9b0, c9b1⟩ := bY c9; clear c9
  by_cases c10 : (a1.size : Int) = 1
  rotate_left
  ·
   rw [if_neg c10] at H; obtain ⟨c10b0, c10b1⟩ := bN c10; obtain rfl := oI H
   go_enter Tryz.func131, Tryz.ntmps131
   go_wp2
   go_ret
   exact ⟨eX, bX⟩
  rw [if_pos c10] at H; obtain ⟨c10b0, c10b1⟩ := bY c10; clear c10
  by_cases c11 : 0 < (a1.size : Int)
  rotate_left
  ·
   rw [if_neg c11] at H
   exact absurd H (by simp)
  rw [if_pos c11] at H; have c11b0 : decide (0 < (a1.size : Int)) = true := decide_eq_true c11
  have c11b1 : decide (0 < a1.size) = true := decide_eq_true (by omega)
  clear c11
  replace H := oB H
  obtain ⟨t134, A130, H⟩ := H
  replace H : (some (t134 == 3)) = some r := H
  have A13 := aK A130; clear A130; obtain rfl := oI H
  have p12 : 0 ≤ (0 : Int) := (by omega)
  have q12 : 0 < a1.size := (by have : (0 : Int) < (a1.size : Int) := oA; omega)
  have hx12 : ∀ h : 0 < a1.size, ((a1[0]'h).toNat : Int) = bt a1 0 := bt_at a1 0
  clear p12
  have qi12 : (0 < (a1.size : Int)) = True := eq_true (oA)
  replace q12 := eq_true q12
  go_enter Tryz.func131, Tryz.ntmps131
  go_wp2_with (first | (go_at_call 62; (with_reducible refine (chars_Class.calls (bt a1 0) t134 _ A13.out).mono ?_); rintro e w14 ⟨rfl, hb⟩; replace HB := aK (bSp bX hb); clear hb))
  go_ret
  exact ⟨eX, bX⟩
 rw [if_pos c3] at H
 obtain ⟨c3b0, c3b1⟩ := bY c3
 clear c3
 by_cases c4 : (a1.size : Int) = 1
 rotate_left
 ·
  rw [if_neg c4] at H; obtain ⟨c4b0, c4b1⟩ := bN c4; obtain rfl := oI H
  go_enter Tryz.func131, Tryz.ntmps131
  go_wp2
  go_ret
  exact ⟨eX, bX⟩
 rw [if_pos c4] at H
 obtain ⟨c4b0, c4b1⟩ := bY c4
 clear c4
 by_cases c5 : 0 < (a1.size : Int)
 rotate_left
 ·
  rw [if_neg c5] at H
  exact absurd H (by simp)
 rw [if_pos c5] at H
 have c5b0 : decide (0 < (a1.size : Int)) = true := decide_eq_true c5
 have c5b1 : decide (0 < a1.size) = true := decide_eq_true (by omega)
 clear c5
 replace H := oB H
 obtain ⟨t133, A70, H⟩ := H
 replace H : (some (t133 == 4)) = some r := H
 have A7 := aK A70
 clear A70
 obtain rfl := oI H
 have p6 : 0 ≤ (0 : Int) := (by omega)
 have q6 : 0 < a1.size := (by have : (0 : Int) < (a1.size : Int) := oA; omega)
 have hx6 : ∀ h : 0 < a1.size, ((a1[0]'h).toNat : Int) = bt a1 0 := bt_at a1 0
 clear p6
 have qi6 : (0 < (a1.size : Int)) = True := eq_true (oA)
 replace q6 := eq_true q6
 go_enter Tryz.func131, Tryz.ntmps131
 go_wp2_with (first | (go_at_call 62; (with_reducible refine (chars_Class.calls (bt a1 0) t133 _ A7.out).mono ?_); rintro e w8 ⟨rfl, hb⟩; replace HB := aK (bSp bX hb); clear hb))
 go_ret
 exact ⟨eX, bX⟩
def rules_May.j0 : Nat → Bool → Int → ByteArray → ByteArray → Int → Int → Option (Bool)
 | 0, _, _, _, _, _, _ => none
 | k + 1, x11, x142000, x142001, x142002, x142003, x142004 => if x11 = true then (some false) else ((rules_letters.f x142000).bind fun t145 => (if t145 = true then (if x142003 ≥ 0 then (some (decide (x142003 ≤ 99))) else (some false)) else (some (x142003 == 0))))
def rules_May.f (k : Nat) (a0_0 : Int) (a0_1 : ByteArray) (a0_2 : ByteArray) (a0_3 : Int) (a0_4 : Int) : Option (Bool) := (cell_Print.f k a0_2).bind fun bt142 => (if a0_0 < 1 then (rules_May.j0 k true a0_0 a0_1 a0_2 a0_3 a0_4) else (if a0_0 > 8 then (rules_May.j0 k true a0_0 a0_1 a0_2 a0_3 a0_4) else ((rules_left.f k a0_0 a0_1).bind fun t144 => (if t144 = true then (rules_May.j0 k (bt142.2 != 0) a0_0 a0_1 a0_2 a0_3 a0_4) else (rules_May.j0 k true a0_0 a0_1 a0_2 a0_3 a0_4)))))
theorem rules_May.calls (k : Nat) (a0_0 : Int) (a0_1 : ByteArray) (a0_2 : ByteArray) (a0_3 : Int) (a0_4 : Int) (r : Bool) (w : World) (h : rules_May.f k a0_0 a0_1 a0_2 a0_3 a0_4 = some r) :
  Calls Tryz.prog 106 #[.agg #[.int .i64 a0_0, .string a0_1, .string a0_2, .int .i64 a0_3, .int .i64 a0_4]] w fun e w' => e = .returned (.bool r) ∧ Below w.heap.size w w' := by
 have hu50 := Tryz.underlying50
 have HB := aK (Below.refl w.heap.size w)
 have H : ((cell_Print.f k a0_2).bind fun bt142 => (if a0_0 < 1 then (rules_May.j0 k true a0_0 a0_1 a0_2 a0_3 a0_4) else (if a0_0 > 8 then (rules_May.j0 k true a0_0 a0_1 a0_2 a0_3 a0_4) else ((rules_left.f k a0_0 a0_1).bind fun t144 => (if t144 = true then (rules_May.j0 k (bt142.2 != 0) a0_0 a0_1 a0_2 a0_3 a0_4) else (rules_May.j0 k true a0_0 a0_1 a0_2 a0_3 a0_4)))))) = some r := h
 clear h
 obtain ⟨⟨t142, t143⟩, A2, H⟩ := oC H
 try dsimp only at H
 have HC3 := aK H
 clear H
 go_enter Tryz.func106, Tryz.ntmps106
 go_upto_region 2 with (first | ((with_reducible refine gate_dst (N := 1) rfl ?_); refine box_event ?hg (N := 1) ?hd (cs := #[.int .i64 a0_0, .string a0_1, .string a0_2, .int .i64 a0_3, .int .i64 a0_4]) (t := 50) ?hr ?_; (case hd => rfl); (case hg => rfl); (case hr => first | (go_simp; done) | (go_simp; rfl)); intro gb141 hg w4 hbox hb; have n0_ := aK (bSp bX hb); have n1_ := aK (hbox); have n2_ := aK ((by rw [hg]; exact (bSz bX) : w.heap.size ≤ gb141)); have n3_ := aK ((by rw [hg]; exact (bSz bX) : w.heap.size ≤ gb141)); clear HB; have HB := n0_; have BK141 := n1_; have GW141 := n2_; have GE141 := n3_; clear n0_ n1_ n2_ n3_; clear hb hbox hg; have hcz5_0 : w4.cell? ⟨gb141, 0, none⟩ = some (.int .i64 a0_0) := (kCe BK141.out 0).trans rfl; have hcz5_1 : w4.cell? ⟨gb141, 1, none⟩ = some (.string a0_1) := (kCe BK141.out 1).trans rfl; have hcz5_2 : w4.cell? ⟨gb141, 2, none⟩ = some (.string a0_2) := (kCe BK141.out 2).trans rfl; have hcz5_3 : w4.cell? ⟨gb141, 3, none⟩ = some (.int .i64 a0_3) := (kCe BK141.out 3).trans rfl; have hcz5_4 : w4.cell? ⟨gb141, 4, none⟩ = some (.int .i64 a0_4) := (kCe BK141.out 4).trans rfl) | ((with_reducible refine gate_callee (f := 130) rfl ?_); refine gO 8 Tryz.func130 #[.string a0_2] ?_; (with_reducible refine (cell_Print.calls k a0_2 t142 t143 _ A2.out).mono ?_); rintro e w6 ⟨rfl, hb⟩; refine ⟨_, rfl, ?_⟩; replace BK141 := aK (kBe (g := gb141) (o := .cells #[.int .i64 a0_0, .string a0_1, .string a0_2, .int .i64 a0_3, .int .i64 a0_4] 50 (0, 0)) (kX BK141.out) hb); replace HB := aK (bSp (bX1 GE141.out) hb); clear hb))
 (try simp only [Act.put, qSa, qS0, qS1])
 go_cut [11] (fun v11 wc => ∃ (kq : Nat) (x11_2 : Bool), v11 = .bool x11_2 ∧ Aside0 (rules_May.j0 kq x11_2 a0_0 a0_1 a0_2 a0_3 a0_4 = some r) ∧ Aside0 (kq ≤ k) ∧ Aside0 (wc.heap[gb141]? = some (.cells #[.int .i64 a0_0, .string a0_1, .string a0_2, .int .i64 a0_3, .int .i64 a0_4] 50 (0, 0))) ∧ Aside0 (Below w.heap.size w wc))
 case first =>
  have H := HC3.out; clear HC3
  by_cases c7 : a0_0 < 1
  rotate_left
  ·
   rw [if_neg c7] at H; have c7b0 : decide (a0_0 < 1) = false := decide_eq_false c7; clear c7
   (first | rw [c7b0] | (simp only [i64_w, i32_w]; rw [c7b0]) | skip)
   by_cases c9 : a0_0 > 8
   rotate_left
   ·
    rw [if_neg c9] at H; have c9b0 : decide (8 < a0_0) = false := decide_eq_false c9; clear c9; obtain ⟨t144, A11, H⟩ := oC H
    try dsimp only at H
    by_cases c12 : t144 = true
    rotate_left
    ·
     replace c12 := Bool.eq_false_iff.mpr c12; subst c12
     have H1 : (rules_May.j0 k true a0_0 a0_1 a0_2 a0_3 a0_4) = some r := by rw [if_neg (show ¬ (false = true) by decide)] at H; exact H
     clear H
     have H := H1
     clear H1; have H' := aK H; clear H; obtain ⟨hcz15_0, hcz15_1, hcz15_2, hcz15_3, hcz15_4⟩ := kC5 BK141.out
     go_wp2_with (first | (go_at_call 131; (with_reducible refine (rules_left.calls k a0_0 a0_1 false _ A11.out).mono ?_); rintro e w16 ⟨rfl, hb⟩; replace BK141 := aK (kBe (g := gb141) (o := .cells #[.int .i64 a0_0, .string a0_1, .string a0_2, .int .i64 a0_3, .int .i64 a0_4] 50 (0, 0)) (kX BK141.out) hb); replace HB := aK (bSp (bX1 GE141.out) hb); clear hb))
     go_meet
     case rel => exact ⟨_, (true), sX, H', ⟨by first | omega | exact Nat.le_refl _⟩, ⟨kX BK141.out⟩, ⟨bX1 GE141.out⟩⟩
    subst c12
    have H1 : (rules_May.j0 k (t143 != 0) a0_0 a0_1 a0_2 a0_3 a0_4) = some r := by rw [if_pos rfl] at H; exact H
    clear H
    have H := H1
    clear H1; have H' := aK H; clear H; obtain ⟨hcz13_0, hcz13_1, hcz13_2, hcz13_3, hcz13_4⟩ := kC5 BK141.out
    go_wp2_with (first | (go_at_call 131; (with_reducible refine (rules_left.calls k a0_0 a0_1 true _ A11.out).mono ?_); rintro e w14 ⟨rfl, hb⟩; replace BK141 := aK (kBe (g := gb141) (o := .cells #[.int .i64 a0_0, .string a0_1, .string a0_2, .int .i64 a0_3, .int .i64 a0_4] 50 (0, 0)) (kX BK141.out) hb); replace HB := aK (bSp (bX1 GE141.out) hb); clear hb))
    go_meet
    case rel => exact ⟨_, ((t143 != 0)), sX, H', ⟨by first | omega | exact Nat.le_refl _⟩, ⟨kX BK141.out⟩, ⟨bX1 GE141.out⟩⟩
   rw [if_pos c9] at H; have c9b0 : decide (8 < a0_0) = true := decide_eq_true c9; clear c9; have H' := aK H; clear H; obtain ⟨hcz10_0, hcz10_1, hcz10_2, hcz10_3, hcz10_4⟩ := kC5 BK141.out
   go_wp2
   go_meet
   case rel => exact ⟨_, (true), sX, H', ⟨by first | omega | exact Nat.le_refl _⟩, ⟨kX BK141.out⟩, ⟨bX1 GE141.out⟩⟩
  rw [if_pos c7] at H; have c7b0 : decide (a0_0 < 1) = true := decide_eq_true c7; clear c7
  (first | rw [c7b0] | (simp only [i64_w, i32_w]; rw [c7b0]) | skip)
  have H' := aK H; clear H; obtain ⟨hcz8_0, hcz8_1, hcz8_2, hcz8_3, hcz8_4⟩ := kC5 BK141.out
  go_wp2
  go_meet
  case rel => exact ⟨_, (true), sX, H', ⟨by first | omega | exact Nat.le_refl _⟩, ⟨kX BK141.out⟩, ⟨bX1 GE141.out⟩⟩
 case rest =>
  clear HC3
  try clear c1
  try clear p2
  try clear c7
  try clear c7b0
  try clear c9
  try clear c9b0
  try clear c10
  try clear c12
  try clear c13
  try clear hcz10_0
  try clear hcz10_1
  try clear hcz10_2
  try clear hcz10_3
  try clear hcz10_4
  try clear hcz13_0
  try clear hcz13_1
  try clear hcz13_2
  try clear hcz13_3
  try clear hcz13_4
  try clear hcz15_0
  try clear hcz15_1
  try clear hcz15_2
  try clear hcz15_3
  try clear hcz15_4
  try clear hcz5_0
  try clear hcz5_1
  try clear hcz5_2
  try clear hcz5_3
  try clear hcz5_4
  try clear hcz8_0
  try clear hcz8_1
  try clear hcz8_2
  try clear hcz8_3
  try clear hcz8_4
  obtain ⟨kq, x11_2, rfl, HA, HJ2, BK141, HB⟩ := hcut
  cases kq with
  | zero => exact absurd HA.out (by simp [rules_May.j0])
  | succ kj2 =>
   have H := HA.out; clear HA
   simp only [rules_May.j0] at H
   by_cases c17 : x11_2 = true
   rotate_left
   ·
    replace c17 := Bool.eq_false_iff.mpr c17; subst c17
    have H1 : ((rules_letters.f a0_0).bind fun t145 => (if t145 = true then (if a0_3 ≥ 0 then (some (decide (a0_3 ≤ 99))) else (some false)) else (some (a0_3 == 0)))) = some r := by rw [if_neg (show ¬ (false = true) by decide)] at H; exact H
    clear H
    have H := H1
    clear H1; obtain ⟨t145, A18, H⟩ := oC H
    try dsimp only at H
    by_cases c19 : t145 = true
    rotate_left
    ·
     replace c19 := Bool.eq_false_iff.mpr c19; subst c19
     have H1 : (some (a0_3 == 0)) = some r := by rw [if_neg (show ¬ (false = true) by decide)] at H; exact H
     clear H
     have H := H1
     clear H1; obtain rfl := oI H; obtain ⟨hcz23_0, hcz23_1, hcz23_2, hcz23_3, hcz23_4⟩ := kC5 BK141.out
     go_wp2_with (first | ((with_reducible refine gate_callee (f := 132) rfl ?_); refine gO 35 Tryz.func132 #[.int .i64 a0_0] ?_; (with_reducible refine (rules_letters.calls a0_0 false _ A18.out).mono ?_); rintro e w' ⟨rfl, ⟨nd, rfl⟩⟩; refine ⟨_, rfl, ?_⟩))
     go_ret
     exact ⟨eX, bX1 GE141.out⟩
    subst c19
    have H1 : (if a0_3 ≥ 0 then (some (decide (a0_3 ≤ 99))) else (some false)) = some r := by rw [if_pos rfl] at H; exact H
    clear H
    have H := H1
    clear H1
    by_cases c20 : a0_3 ≥ 0
    rotate_left
    ·
     rw [if_neg c20] at H; have c20b0 : decide (0 ≤ a0_3) = false := decide_eq_false c20; clear c20; obtain rfl := oI H; obtain ⟨hcz22_0, hcz22_1, hcz22_2, hcz22_3, hcz22_4⟩ := kC5 BK141.out
     go_wp2_with (first | ((with_reducible refine gate_callee (f := 132) rfl ?_); refine gO 35 Tryz.func132 #[.int .i64 a0_0] ?_; (with_reducible refine (rules_letters.calls a0_0 true _ A18.out).mono ?_); rintro e w' ⟨rfl, ⟨nd, rfl⟩⟩; refine ⟨_, rfl, ?_⟩))
     go_ret
     exact ⟨eX, bX1 GE141.out⟩
    rw [if_pos c20] at H; have c20b0 : decide (0 ≤ a0_3) = true := decide_eq_true c20; clear c20; obtain rfl := oI H; obtain ⟨hcz21_0, hcz21_1, hcz21_2, hcz21_3, hcz21_4⟩ := kC5 BK141.out
    go_wp2_with (first | ((with_reducible refine gate_callee (f := 132) rfl ?_); refine gO 35 Tryz.func132 #[.int .i64 a0_0] ?_; (with_reducible refine (rules_letters.calls a0_0 true _ A18.out).mono ?_); rintro e w' ⟨rfl, ⟨nd, rfl⟩⟩; refine ⟨_, rfl, ?_⟩))
    go_ret
    exact ⟨eX, bX1 GE141.out⟩
   subst c17
   have H1 : (some false) = some r := by rw [if_pos rfl] at H; exact H
   clear H
   have H := H1
   clear H1; obtain rfl := oI H
   go_wp2
   go_ret
   exact ⟨eX, bX1 GE141.out⟩
def check_kept.f (a0_0 : Int) (a0_1 : ByteArray) (a0_2 : ByteArray) (a0_3 : Int) (a0_4 : Int) : Option (Bool) := if a0_0 = 8 then (if a0_1.toList = ([98, 108, 107] : List UInt8) then (some true) else (if a0_1.toList = ([99, 111, 110, 116] : List UInt8) then (some true) else (some (a0_1.toList == ([105, 110, 100] : List UInt8))))) else (some false)
theorem check_kept.calls (a0_0 : Int) (a0_1 : ByteArray) (a0_2 : ByteArray) (a0_3 : Int) (a0_4 : Int) (r : Bool) (w : World) (h : check_kept.f a0_0 a0_1 a0_2 a0_3 a0_4 = some r) :
  Calls Tryz.prog 133 #[.agg #[.int .i64 a0_0, .string a0_1, .string a0_2, .int .i64 a0_3, .int .i64 a0_4]] w fun e w' => e = .returned (.bool r) ∧ Below w.heap.size w w' := by
 have hu50 := Tryz.underlying50
 have HB := aK (Below.refl w.heap.size w)
 have H : (if a0_0 = 8 then (if a0_1.toList = ([98, 108, 107] : List UInt8) then (some true) else (if a0_1.toList = ([99, 111, 110, 116] : List UInt8) then (some true) else (some (a0_1.toList == ([105, 110, 100] : List UInt8))))) else (some false)) = some r := h
 clear h
 by_cases c2 : a0_0 = 8
 rotate_left
 ·
  rw [if_neg c2] at H; obtain ⟨c2b0, c2b1⟩ := bN c2; obtain rfl := oI H
  go_enter Tryz.func133, Tryz.ntmps133
  go_wp2_with (first | ((with_reducible refine gate_dst (N := 1) rfl ?_); refine box_event ?hg (N := 1) ?hd (cs := #[.int .i64 a0_0, .string a0_1, .string a0_2, .int .i64 a0_3, .int .i64 a0_4]) (t := 50) ?hr ?_; (case hd => rfl); (case hg => rfl); (case hr => first | (go_simp; done) | (go_simp; rfl)); intro gb146 hg w11 hbox hb; have n0_ := aK (bSp bX hb); have n1_ := aK (hbox); have n2_ := aK ((by rw [hg]; exact (bSz bX) : w.heap.size ≤ gb146)); have n3_ := aK ((by rw [hg]; exact (bSz bX) : w.heap.size ≤ gb146)); clear HB; have HB := n0_; have BK146 := n1_; have GW146 := n2_; have GE146 := n3_; clear n0_ n1_ n2_ n3_; clear hb hbox hg; have hcz12_0 : w11.cell? ⟨gb146, 0, none⟩ = some (.int .i64 a0_0) := (kCe BK146.out 0).trans rfl; have hcz12_1 : w11.cell? ⟨gb146, 1, none⟩ = some (.string a0_1) := (kCe BK146.out 1).trans rfl; have hcz12_2 : w11.cell? ⟨gb146, 2, none⟩ = some (.string a0_2) := (kCe BK146.out 2).trans rfl; have hcz12_3 : w11.cell? ⟨gb146, 3, none⟩ = some (.int .i64 a0_3) := (kCe BK146.out 3).trans rfl; have hcz12_4 : w11.cell? ⟨gb146, 4, none⟩ = some (.int .i64 a0_4) := (kCe BK146.out 4).trans rfl))
  go_ret
  exact ⟨eX, bX1 GE146.out⟩
 rw [if_pos c2] at H
 obtain ⟨c2b0, c2b1⟩ := bY c2
 clear c2
 by_cases c3 : a0_1.toList = ([98, 108, 107] : List UInt8)
 rotate_left
 ·
  rw [if_neg c3] at H; obtain ⟨c3b0, c3b1⟩ := bN c3
  by_cases c6 : a0_1.toList = ([99, 111, 110, 116] : List UInt8)
  rotate_left
  ·
   rw [if_neg c6] at H; obtain ⟨c6b0, c6b1⟩ := bN c6; obtain rfl := oI H
   go_enter Tryz.func133, Tryz.ntmps133
   go_wp2_with (first | ((with_reducible refine gate_dst (N := 1) rfl ?_); refine box_event ?hg (N := 1) ?hd (cs := #[.int .i64 a0_0, .string a0_1, .string a0_2, .int .i64 a0_3, .int .i64 a0_4]) (t := 50) ?hr ?_; (case hd => rfl); (case hg => rfl); (case hr => first | (go_simp; done) | (go_simp; rfl)); intro gb146 hg w9 hbox hb; have n0_ := aK (bSp bX hb); have n1_ := aK (hbox); have n2_ := aK ((by rw [hg]; exact (bSz bX) : w.heap.size ≤ gb146)); have n3_ := aK ((by rw [hg]; exact (bSz bX) : w.heap.size ≤ gb146)); clear HB; have HB := n0_; have BK146 := n1_; have GW146 := n2_; have GE146 := n3_; clear n0_ n1_ n2_ n3_; clear hb hbox hg; have hcz10_0 : w9.cell? ⟨gb146, 0, none⟩ = some (.int .i64 a0_0) := (kCe BK146.out 0).trans rfl; have hcz10_1 : w9.cell? ⟨gb146, 1, none⟩ = some (.string a0_1) := (kCe BK146.out 1).trans rfl; have hcz10_2 : w9.cell? ⟨gb146, 2, none⟩ = some (.string a0_2) := (kCe BK146.out 2).trans rfl; have hcz10_3 : w9.cell? ⟨gb146, 3, none⟩ = some (.int .i64 a0_3) := (kCe BK146.out 3).trans rfl; have hcz10_4 : w9.cell? ⟨gb146, 4, none⟩ = some (.int .i64 a0_4) := (kCe BK146.out 4).trans rfl))
   go_ret
   exact ⟨eX, bX1 GE146.out⟩
  rw [if_pos c6] at H; obtain ⟨c6b0, c6b1⟩ := bY c6; clear c6; obtain rfl := oI H
  go_enter Tryz.func133, Tryz.ntmps133
  go_wp2_with (first | ((with_reducible refine gate_dst (N := 1) rfl ?_); refine box_event ?hg (N := 1) ?hd (cs := #[.int .i64 a0_0, .string a0_1, .string a0_2, .int .i64 a0_3, .int .i64 a0_4]) (t := 50) ?hr ?_; (case hd => rfl); (case hg => rfl); (case hr => first | (go_simp; done) | (go_simp; rfl)); intro gb146 hg w7 hbox hb; have n0_ := aK (bSp bX hb); have n1_ := aK (hbox); have n2_ := aK ((by rw [hg]; exact (bSz bX) : w.heap.size ≤ gb146)); have n3_ := aK ((by rw [hg]; exact (bSz bX) : w.heap.size ≤ gb146)); clear HB; have HB := n0_; have BK146 := n1_; have GW146 := n2_; have GE146 := n3_; clear n0_ n1_ n2_ n3_; clear hb hbox hg; have hcz8_0 : w7.cell? ⟨gb146, 0, none⟩ = some (.int .i64 a0_0) := (kCe BK146.out 0).trans rfl; have hcz8_1 : w7.cell? ⟨gb146, 1, none⟩ = some (.string a0_1) := (kCe BK146.out 1).trans rfl; have hcz8_2 : w7.cell? ⟨gb146, 2, none⟩ = some (.string a0_2) := (kCe BK146.out 2).trans rfl; have hcz8_3 : w7.cell? ⟨gb146, 3, none⟩ = some (.int .i64 a0_3) := (kCe BK146.out 3).trans rfl; have hcz8_4 : w7.cell? ⟨gb146, 4, none⟩ = some (.int .i64 a0_4) := (kCe BK146.out 4).trans rfl))
  go_ret
  exact ⟨eX, bX1 GE146.out⟩
 rw [if_pos c3] at H
 obtain ⟨c3b0, c3b1⟩ := bY c3
 clear c3
 obtain rfl := oI H
 go_enter Tryz.func133, Tryz.ntmps133
 go_wp2_with (first | ((with_reducible refine gate_dst (N := 1) rfl ?_); refine box_event ?hg (N := 1) ?hd (cs := #[.int .i64 a0_0, .string a0_1, .string a0_2, .int .i64 a0_3, .int .i64 a0_4]) (t := 50) ?hr ?_; (case hd => rfl); (case hg => rfl); (case hr => first | (go_simp; done) | (go_simp; rfl)); intro gb146 hg w4 hbox hb; have n0_ := aK (bSp bX hb); have n1_ := aK (hbox); have n2_ := aK ((by rw [hg]; exact (bSz bX) : w.heap.size ≤ gb146)); have n3_ := aK ((by rw [hg]; exact (bSz bX) : w.heap.size ≤ gb146)); clear HB; have HB := n0_; have BK146 := n1_; have GW146 := n2_; have GE146 := n3_; clear n0_ n1_ n2_ n3_; clear hb hbox hg; have hcz5_0 : w4.cell? ⟨gb146, 0, none⟩ = some (.int .i64 a0_0) := (kCe BK146.out 0).trans rfl; have hcz5_1 : w4.cell? ⟨gb146, 1, none⟩ = some (.string a0_1) := (kCe BK146.out 1).trans rfl; have hcz5_2 : w4.cell? ⟨gb146, 2, none⟩ = some (.string a0_2) := (kCe BK146.out 2).trans rfl; have hcz5_3 : w4.cell? ⟨gb146, 3, none⟩ = some (.int .i64 a0_3) := (kCe BK146.out 3).trans rfl; have hcz5_4 : w4.cell? ⟨gb146, 4, none⟩ = some (.int .i64 a0_4) := (kCe BK146.out 4).trans rfl))
 go_ret
 exact ⟨eX, bX1 GE146.out⟩
end Go.Proofs.YtbpbniemjjhecaaGreat.PChk
