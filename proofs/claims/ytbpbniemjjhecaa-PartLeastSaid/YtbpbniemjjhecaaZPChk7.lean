import Derived.Test.YtbpbniemjjhecaaZPChk0
import Derived.Test.YtbpbniemjjhecaaZPChk6
namespace Go.Proofs.Ytbpbniemjjhecaa.PChk
open Go.RowKit Go.Proofs.Ytbpbniemjjhecaa.G Go.Proofs.YtbpbniemjjhecaaW.PrintWords Go.Proofs.YtbpbniemjjhecaaW.PrintLast Go.Proofs.YtbpbniemjjhecaaW.PrintMore
attribute [local go_sem] max2_int min2_int max_two min_two max_three min_three max_four min_four
set_option linter.unusedVariables false
set_option linter.unusedSimpArgs false
set_option maxHeartbeats 8000000
set_option maxRecDepth 100000
def rules_Names.f  : Option (List ByteArray) := some (([(⟨#[99, 97, 112]⟩ : ByteArray), (⟨#[99, 97, 112, 115]⟩ : ByteArray), (⟨#[110, 117, 109]⟩ : ByteArray), (⟨#[108, 101, 116]⟩ : ByteArray), (⟨#[101, 43]⟩ : ByteArray), (⟨#[101, 45]⟩ : ByteArray), (⟨#[115, 43]⟩ : ByteArray), (⟨#[115, 45]⟩ : ByteArray), (⟨#[110, 43]⟩ : ByteArray), (⟨#[110, 45]⟩ : ByteArray), (⟨#[98, 108, 107]⟩ : ByteArray), (⟨#[99, 111, 110, 116]⟩ : ByteArray), (⟨#[105, 110, 100]⟩ : ByteArray)] : List ByteArray))
theorem rules_Names.calls  (r : List ByteArray) (w : World) (h : rules_Names.f  = some r) :
  Calls Try.prog 86 #[] w fun e w' => ∃ v0_ : Value, e = .returned (v0_) ∧ Kd.R Kd.string 9 w' w.heap.size (fun _ => True) v0_ r ∧ Below w.heap.size w w' := by
 have HB := aK (Below.refl w.heap.size w)
 have H : (some (([(⟨#[99, 97, 112]⟩ : ByteArray), (⟨#[99, 97, 112, 115]⟩ : ByteArray), (⟨#[110, 117, 109]⟩ : ByteArray), (⟨#[108, 101, 116]⟩ : ByteArray), (⟨#[101, 43]⟩ : ByteArray), (⟨#[101, 45]⟩ : ByteArray), (⟨#[115, 43]⟩ : ByteArray), (⟨#[115, 45]⟩ : ByteArray), (⟨#[110, 43]⟩ : ByteArray), (⟨#[110, 45]⟩ : ByteArray), (⟨#[98, 108, 107]⟩ : ByteArray), (⟨#[99, 111, 110, 116]⟩ : ByteArray), (⟨#[105, 110, 100]⟩ : ByteArray)] : List ByteArray))) = some r := h
 clear h
 obtain ⟨y198, hy198⟩ : ∃ y_ : List ByteArray, y_ = (([(⟨#[99, 97, 112]⟩ : ByteArray), (⟨#[99, 97, 112, 115]⟩ : ByteArray), (⟨#[110, 117, 109]⟩ : ByteArray), (⟨#[108, 101, 116]⟩ : ByteArray), (⟨#[101, 43]⟩ : ByteArray), (⟨#[101, 45]⟩ : ByteArray), (⟨#[115, 43]⟩ : ByteArray), (⟨#[115, 45]⟩ : ByteArray), (⟨#[110, 43]⟩ : ByteArray), (⟨#[110, 45]⟩ : ByteArray), (⟨#[98, 108, 107]⟩ : ByteArray), (⟨#[99, 111, 110, 116]⟩ : ByteArray), (⟨#[105, 110, 100]⟩ : ByteArray)] : List ByteArray)) := ⟨_, rfl⟩
 replace H : (some y198) = some r := by first | (rw [hy198]; with_reducible exact H) | (have H2_ := (Option.bind_some _ _).symm.trans H; rw [hy198]; with_reducible exact H2_) | (have H2_ := (Option.bind_some _ _).symm.trans H; with_reducible exact H2_) | with_reducible exact H | (rw [hy198]; exact H) | exact H
 have Ny198 := aK hy198
 clear hy198
 obtain rfl := oI H
 go_enter Try.func86, Try.ntmps86
 go_wp2_with (first | ((with_reducible refine gate_dst (N := 1) rfl ?_); refine Kd.R_lit Kd.string _ 9 ?hg (N := 1) ?hd (xs := ([(⟨#[99, 97, 112]⟩ : ByteArray), (⟨#[99, 97, 112, 115]⟩ : ByteArray), (⟨#[110, 117, 109]⟩ : ByteArray), (⟨#[108, 101, 116]⟩ : ByteArray), (⟨#[101, 43]⟩ : ByteArray), (⟨#[101, 45]⟩ : ByteArray), (⟨#[115, 43]⟩ : ByteArray), (⟨#[115, 45]⟩ : ByteArray), (⟨#[110, 43]⟩ : ByteArray), (⟨#[110, 45]⟩ : ByteArray), (⟨#[98, 108, 107]⟩ : ByteArray), (⟨#[99, 111, 110, 116]⟩ : ByteArray), (⟨#[105, 110, 100]⟩ : ByteArray)] : List ByteArray)) (inner := [.string (⟨#[99, 97, 112]⟩ : ByteArray), .string (⟨#[99, 97, 112, 115]⟩ : ByteArray), .string (⟨#[110, 117, 109]⟩ : ByteArray), .string (⟨#[108, 101, 116]⟩ : ByteArray), .string (⟨#[101, 43]⟩ : ByteArray), .string (⟨#[101, 45]⟩ : ByteArray), .string (⟨#[115, 43]⟩ : ByteArray), .string (⟨#[115, 45]⟩ : ByteArray), .string (⟨#[110, 43]⟩ : ByteArray), .string (⟨#[110, 45]⟩ : ByteArray), .string (⟨#[98, 108, 107]⟩ : ByteArray), .string (⟨#[99, 111, 110, 116]⟩ : ByteArray), .string (⟨#[105, 110, 100]⟩ : ByteArray)]) (ok := fun _ => True) (okp := fun _ => True) ?hr ?hp (fun _ hk => hk) trivial (Below.refl _ _) (Nat.le_refl _) (by simp) ?_; (case hd => rfl); (case hg => rfl); (case hr => first | (go_simp; done) | (go_simp; rfl)); (case hp => exact (Reps.one (show Kd.M Kd.string _ _ _ (⟨#[99, 97, 112]⟩ : ByteArray) [.string (⟨#[99, 97, 112]⟩ : ByteArray)] from rfl) (Reps.one (show Kd.M Kd.string _ _ _ (⟨#[99, 97, 112, 115]⟩ : ByteArray) [.string (⟨#[99, 97, 112, 115]⟩ : ByteArray)] from rfl) (Reps.one (show Kd.M Kd.string _ _ _ (⟨#[110, 117, 109]⟩ : ByteArray) [.string (⟨#[110, 117, 109]⟩ : ByteArray)] from rfl) (Reps.one (show Kd.M Kd.string _ _ _ (⟨#[108, 101, 116]⟩ : ByteArray) [.string (⟨#[108, 101, 116]⟩ : ByteArray)] from rfl) (Reps.one (show Kd.M Kd.string _ _ _ (⟨#[101, 43]⟩ : ByteArray) [.string (⟨#[101, 43]⟩ : ByteArray)] from rfl) (Reps.one (show Kd.M Kd.string _ _ _ (⟨#[101, 45]⟩ : ByteArray) [.string (⟨#[101, 45]⟩ : ByteArray)] from rfl) (Reps.one (show Kd.M Kd.string _ _ _ (⟨#[115, 43]⟩ : ByteArray) [.string (⟨#[115, 43]⟩ : ByteArray)] from rfl) (Reps.one (show Kd.M Kd.string _ _ _ (⟨#[115, 45]⟩ : ByteArray) [.string (⟨#[115, 45]⟩ : ByteArray)] from rfl) (Reps.one (show Kd.M Kd.string _ _ _ (⟨#[110, 43]⟩ : ByteArray) [.string (⟨#[110, 43]⟩ : ByteArray)] from rfl) (Reps.one (show Kd.M Kd.string _ _ _ (⟨#[110, 45]⟩ : ByteArray) [.string (⟨#[110, 45]⟩ : ByteArray)] from rfl) (Reps.one (show Kd.M Kd.string _ _ _ (⟨#[98, 108, 107]⟩ : ByteArray) [.string (⟨#[98, 108, 107]⟩ : ByteArray)] from rfl) (Reps.one (show Kd.M Kd.string _ _ _ (⟨#[99, 111, 110, 116]⟩ : ByteArray) [.string (⟨#[99, 111, 110, 116]⟩ : ByteArray)] from rfl) (Reps.one (show Kd.M Kd.string _ _ _ (⟨#[105, 110, 100]⟩ : ByteArray) [.string (⟨#[105, 110, 100]⟩ : ByteArray)] from rfl) (Reps.none _ _))))))))))))))); intro v199 w1 ho2 hb hg_ hnew_; clear hg_ hnew_; (first | rw [← Ny198.out] at ho2 | (simp only [Int.reduceToNat] at ho2; rw [← Ny198.out] at ho2)); have n0_ := aK (Kd.R_lower ho2 (bSz (by repeat (first | (with_reducible first | exact HB.out | apply bAl | apply pbD | apply bD1) | exact HB.out)))); have n1_ := aK (bSp (by repeat (first | (with_reducible first | exact HB.out | apply bAl | apply pbD | apply bD1) | exact HB.out)) hb); clear HB; have HO200 := n0_; have HB := n1_; clear n0_ n1_; clear hb ho2))
 go_ret
 exact ⟨_, by first | rfl | (simp [eWn, eWs] <;> rfl) | (simp [*, eWn, eWs] <;> rfl), by (with_reducible repeat (first | apply Kd.R_alloc | apply Kd.R_drewN | apply Kd.R_drew)); exact HO200.out, by repeat (first | (with_reducible first | exact HB.out | apply bAl | apply pbD | apply bD1) | exact HB.out)⟩
def slices_Index_string_string.l0 : Nat → List ByteArray → ByteArray → Int → Int → Option (Int)
 | 0, _, _, _, _ => none
 | k + 1, x0, x1, x7, x8 => if x8 < x7 then (if 0 ≤ x8 then (if x8 < (x0.length : Int) then (if x1.toList = (rdOf ByteArray.empty x0 x8).toList then (some x8) else (slices_Index_string_string.l0 k x0 x1 x7 (wrap64 (x8 + 1)))) else (none)) else (none)) else (some (-1))
def slices_Index_string_string.f (k : Nat) (l0 : List ByteArray) (a1 : ByteArray) : Option (Int) := slices_Index_string_string.l0 k l0 a1 (l0.length : Int) 0
theorem slices_Index_string_string.calls (k : Nat) (A0 : Option Addr) (c0 : Nat) (l0 : List ByteArray) (a1 : ByteArray) (r : Int) (w : World) (hr0 : Kd.C Kd.string w A0 l0.length l0) (hc0 : l0.length ≤ c0) (h : slices_Index_string_string.f k l0 a1 = some r) :
  Calls Try.prog 106 #[.slice A0 l0.length c0, .string a1] w fun e w' => e = .returned (.int .i64 r) ∧ Drawn0 w w' := by
 have HR0 := aK hr0
 have HC0 := aK hc0
 clear hr0 hc0
 have H : (slices_Index_string_string.l0 k l0 a1 (l0.length : Int) 0) = some r := h
 clear h
 have H' := aK H
 clear H
 go_enter Try.func106, Try.ntmps106
 go_wp2
 go_loopg [8] k (fun kq v8 w' => ∃ (x8_1 : Int), v8 = .int .i64 x8_1 ∧ Aside0 (slices_Index_string_string.l0 kq l0 a1 (l0.length : Int) x8_1 = some r) ∧ Aside0 (kq ≤ k) ∧ Drawn0 w w')
 case atStart => exact ⟨(0), (by first | rfl | (simp; done) | (simp [*]; done)), H', ⟨Nat.le_refl _⟩, by repeat (first | exact Drawn0.refl _ | apply Drawn0.step)⟩
 case round =>
  clear H'
  try clear c1
  try clear p2
  obtain ⟨x8_1, rfl, HA, HK1, ⟨m1, rfl⟩⟩ := hrel
  cases gk with
  | zero => exact absurd HA.out (by simp [slices_Index_string_string.l0])
  | succ k1 =>
   have H := HA.out
   clear HA
   simp only [slices_Index_string_string.l0] at H
   by_cases c3 : x8_1 < (l0.length : Int)
   rotate_left
   ·
    rw [if_neg c3] at H
    have c3b0 : decide (x8_1 < (l0.length : Int)) = false := decide_eq_false c3
    clear c3
    obtain rfl := oI H
    go_wp2
    go_ret
    exact ⟨by first | rfl | (simp; done) | (simp [*]; done), by repeat (first | exact Drawn0.refl _ | apply Drawn0.step)⟩
   rw [if_pos c3] at H
   have c3b0 : decide (x8_1 < (l0.length : Int)) = true := decide_eq_true c3
   clear c3
   by_cases c4 : 0 ≤ x8_1
   rotate_left
   ·
    rw [if_neg c4] at H
    exact absurd H (by simp)
   rw [if_pos c4] at H
   have c4b0 : decide (0 ≤ x8_1) = true := decide_eq_true c4
   clear c4
   by_cases c5 : x8_1 < (l0.length : Int)
   rotate_left
   ·
    rw [if_neg c5] at H
    exact absurd H (by simp)
   rw [if_pos c5] at H
   have c5b0 : decide (x8_1 < (l0.length : Int)) = true := decide_eq_true c5
   clear c5
   by_cases c6 : a1.toList = (rdOf ByteArray.empty l0 x8_1).toList
   rotate_left
   ·
    rw [if_neg c6] at H
    have c6b0 : (a1.toList == (rdOf ByteArray.empty l0 x8_1).toList) = false := beq_eq_false_iff_ne.mpr c6
    have c6b1 : (a1.toList != (rdOf ByteArray.empty l0 x8_1).toList) = true := bne_iff_ne.mpr c6
    have H' := aK H
    clear H
    have p201 : 0 ≤ (x8_1 : Int) := odT (by first | (with_reducible assumption) | assumption)
    have q201 : x8_1 < (l0.length : Int) := odT (by first | (with_reducible assumption) | assumption)
    obtain ⟨ad201, e201, hx201_0⟩ := Kd.at_string HR0.out x8_1 p201 q201
    cases e201
    replace p201 := eq_true p201
    replace q201 := eq_true q201
    go_wp2
    go_roundg k1
    case measure => have := HK1.out; omega
    case rel => exact ⟨(wrap64 (x8_1 + 1)), (by first | rfl | (simp; done) | (simp [*]; done)), H', ⟨by have := HK1.out; omega⟩, by repeat (first | exact Drawn0.refl _ | apply Drawn0.step)⟩
   rw [if_pos c6] at H
   have c6b0 : (a1.toList == (rdOf ByteArray.empty l0 x8_1).toList) = true := beq_iff_eq.mpr c6
   have c6b1 : (a1.toList != (rdOf ByteArray.empty l0 x8_1).toList) = false := bne_eq_false_iff_eq.mpr c6
   clear c6
   obtain rfl := oI H
   have p201 : 0 ≤ (x8_1 : Int) := odT (by first | (with_reducible assumption) | assumption)
   have q201 : x8_1 < (l0.length : Int) := odT (by first | (with_reducible assumption) | assumption)
   obtain ⟨ad201, e201, hx201_0⟩ := Kd.at_string HR0.out x8_1 p201 q201
   cases e201
   replace p201 := eq_true p201
   replace q201 := eq_true q201
   go_wp2
   go_ret
   exact ⟨by first | rfl | (simp; done) | (simp [*]; done), by repeat (first | exact Drawn0.refl _ | apply Drawn0.step)⟩
def slices_Contains_string_string.f (k : Nat) (l0 : List ByteArray) (a1 : ByteArray) : Option (Bool) := (slices_Index_string_string.f k l0 a1).bind fun t202 => (some (decide (t202 ≥ 0)))
theorem slices_Contains_string_string.calls (k : Nat) (A0 : Option Addr) (c0 : Nat) (l0 : List ByteArray) (a1 : ByteArray) (r : Bool) (w : World) (hr0 : Kd.C Kd.string w A0 l0.length l0) (hc0 : l0.length ≤ c0) (h : slices_Contains_string_string.f k l0 a1 = some r) :
  Calls Try.prog 97 #[.slice A0 l0.length c0, .string a1] w fun e w' => e = .returned (.bool r) ∧ Drawn0 w w' := by
 have HR0 := aK hr0
 have HC0 := aK hc0
 clear hr0 hc0
 have H : ((slices_Index_string_string.f k l0 a1).bind fun t202 => (some (decide (t202 ≥ 0)))) = some r := h
 clear h
 replace H := oB H
 obtain ⟨t202, A30, H⟩ := H
 replace H : (some (decide (t202 ≥ 0))) = some r := H
 have A3 := aK A30
 clear A30
 obtain rfl := oI H
 go_enter Try.func97, Try.ntmps97
 go_wp2_with (first | ((with_reducible refine gate_callee (f := 106) rfl ?_); refine goesL_ (some 7) rfl rfl Try.func106 (by kernel_rfl) rfl #[.slice A0 l0.length c0, .string a1] rfl (by (try simp only [qM0, qM1, qM2]); first | done | rfl | (simp only [qD0, qD1]; rfl)) ?_; (with_reducible refine (slices_Index_string_string.calls k _ _ l0 a1 t202 _ ?side1 ?side2 A3.out).mono ?_); (case side1 => repeat (first | exact HR0.out | (with_reducible refine Kd.C_alloc ?_ _) | (with_reducible refine Kd.C_drewN ?_ _) | (with_reducible refine Kd.C_drew ?_))); (case side2 => exact HC0.out); rintro e w' ⟨rfl, ⟨nd, rfl⟩⟩; refine ⟨_, rfl, ?_⟩))
 go_ret
 exact ⟨by first | rfl | (simp; done) | (simp [*]; done), by repeat (first | exact Drawn0.refl _ | apply Drawn0.step)⟩
def rules_left.f (k : Nat) (a0 : Int) (a1 : ByteArray) : Option (Bool) := if a0 = 6 then (if (a1.size : Int) = 1 then (if 0 < (a1.size : Int) then ((chars_Class.f (bt a1 0)).bind fun t203 => (some (t203 == 4))) else (none)) else (some false)) else (if a0 = 7 then (if (a1.size : Int) = 1 then (if 0 < (a1.size : Int) then ((chars_Class.f (bt a1 0)).bind fun t204 => (some (t204 == 3))) else (none)) else (some false)) else (if a0 = 8 then ((rules_Names.f).bind fun t205 => ((slices_Contains_string_string.f k t205 a1).bind fun t208 => (some t208))) else ((rules_letters.f a0).bind fun t209 => (if t209 = true then (if (a1.size : Int) ≤ 12 then ((chars_Case.f a1).bind fun t210 => (some (t210 == 1))) else (some false)) else (some false)))))
theorem rules_left.calls (k : Nat) (a0 : Int) (a1 : ByteArray) (r : Bool) (w : World) (h : rules_left.f k a0 a1 = some r) :
  Calls Try.prog 80 #[.int .i64 a0, .string a1] w fun e w' => e = .returned (.bool r) ∧ Below w.heap.size w w' := by
 have HB := aK (Below.refl w.heap.size w)
 have H : (if a0 = 6 then (if (a1.size : Int) = 1 then (if 0 < (a1.size : Int) then ((chars_Class.f (bt a1 0)).bind fun t203 => (some (t203 == 4))) else (none)) else (some false)) else (if a0 = 7 then (if (a1.size : Int) = 1 then (if 0 < (a1.size : Int) then ((chars_Class.f (bt a1 0)).bind fun t204 => (some (t204 == 3))) else (none)) else (some false)) else (if a0 = 8 then ((rules_Names.f).bind fun t205 => ((slices_Contains_string_string.f k t205 a1).bind fun t208 => (some t208))) else ((rules_letters.f a0).bind fun t209 => (if t209 = true then (if (a1.size : Int) ≤ 12 then ((chars_Case.f a1).bind fun t210 => (some (t210 == 1))) else (some false)) else (some false)))))) = some r := h
 clear h
 by_cases c3 : a0 = 6
 rotate_left
 ·
  rw [if_neg c3] at H
  have c3b0 : (a0 == 6) = false := beq_eq_false_iff_ne.mpr c3
  have c3b1 : (a0 != 6) = true := bne_iff_ne.mpr c3
  by_cases c9 : a0 = 7
  rotate_left
  ·
   rw [if_neg c9] at H
   have c9b0 : (a0 == 7) = false := beq_eq_false_iff_ne.mpr c9
   have c9b1 : (a0 != 7) = true := bne_iff_ne.mpr c9
   by_cases c15 : a0 = 8
   rotate_left
   ·
    rw [if_neg c15] at H
    have c15b0 : (a0 == 8) = false := beq_eq_false_iff_ne.mpr c15
    have c15b1 : (a0 != 8) = true := bne_iff_ne.mpr c15
    replace H := oB H
    obtain ⟨t209, A200, H⟩ := H
    try dsimp only at H
    have A20 := aK A200
    clear A200
    by_cases c21 : t209 = true
    rotate_left
    ·
     replace c21 := Bool.eq_false_iff.mpr c21
     subst c21
     have H1 : (some false) = some r := by rw [if_neg (show ¬ (false = true) by decide)] at H; exact H
     clear H
     have H := H1
     clear H1
     obtain rfl := oI H
     go_enter Try.func80, Try.ntmps80
     go_wp2_with (first | ((with_reducible refine gate_callee (f := 81) rfl ?_); refine goesL_ (some 34) rfl rfl Try.func81 (by kernel_rfl) rfl #[.int .i64 a0] rfl (by (try simp only [qM0, qM1, qM2]); first | done | rfl | (simp only [qD0, qD1]; rfl)) ?_; (with_reducible refine (rules_letters.calls a0 false _ A20.out).mono ?_); rintro e w' ⟨rfl, ⟨nd, rfl⟩⟩; refine ⟨_, rfl, ?_⟩))
     go_ret
     exact ⟨by first | rfl | (simp [eWn, eWs] <;> rfl) | (simp [*, eWn, eWs] <;> rfl), by repeat (first | (with_reducible first | exact HB.out | apply bAl | apply pbD | apply bD1) | exact HB.out)⟩
    subst c21
    have H1 : (if (a1.size : Int) ≤ 12 then ((chars_Case.f a1).bind fun t210 => (some (t210 == 1))) else (some false)) = some r := by rw [if_pos rfl] at H; exact H
    clear H
    have H := H1
    clear H1
    by_cases c22 : (a1.size : Int) ≤ 12
    rotate_left
    ·
     rw [if_neg c22] at H
     have c22b0 : decide ((a1.size : Int) ≤ 12) = false := decide_eq_false c22
     have c22b1 : decide (a1.size ≤ 12) = false := decide_eq_false (by omega)
     clear c22
     obtain rfl := oI H
     go_enter Try.func80, Try.ntmps80
     go_wp2_with (first | ((with_reducible refine gate_callee (f := 81) rfl ?_); refine goesL_ (some 34) rfl rfl Try.func81 (by kernel_rfl) rfl #[.int .i64 a0] rfl (by (try simp only [qM0, qM1, qM2]); first | done | rfl | (simp only [qD0, qD1]; rfl)) ?_; (with_reducible refine (rules_letters.calls a0 true _ A20.out).mono ?_); rintro e w' ⟨rfl, ⟨nd, rfl⟩⟩; refine ⟨_, rfl, ?_⟩))
     go_ret
     exact ⟨by first | rfl | (simp [eWn, eWs] <;> rfl) | (simp [*, eWn, eWs] <;> rfl), by repeat (first | (with_reducible first | exact HB.out | apply bAl | apply pbD | apply bD1) | exact HB.out)⟩
    rw [if_pos c22] at H
    have c22b0 : decide ((a1.size : Int) ≤ 12) = true := decide_eq_true c22
    have c22b1 : decide (a1.size ≤ 12) = true := decide_eq_true (by omega)
    clear c22
    replace H := oB H
    obtain ⟨t210, A230, H⟩ := H
    replace H : (some (t210 == 1)) = some r := H
    have A23 := aK A230
    clear A230
    obtain rfl := oI H
    go_enter Try.func80, Try.ntmps80
    go_wp2_with (first | ((with_reducible refine gate_callee (f := 81) rfl ?_); refine goesL_ (some 34) rfl rfl Try.func81 (by kernel_rfl) rfl #[.int .i64 a0] rfl (by (try simp only [qM0, qM1, qM2]); first | done | rfl | (simp only [qD0, qD1]; rfl)) ?_; (with_reducible refine (rules_letters.calls a0 true _ A20.out).mono ?_); rintro e w' ⟨rfl, ⟨nd, rfl⟩⟩; refine ⟨_, rfl, ?_⟩) | (go_at_call 28; (with_reducible refine (chars_Case.calls a1 t210 _ A23.out).mono ?_); rintro e w24 ⟨rfl, hb⟩; have n0_ := aK (bSp (by repeat (first | (with_reducible first | exact HB.out | apply bAl | apply pbD | apply bD1) | exact HB.out)) hb); clear HB; have HB := n0_; clear n0_; (try clear hb); (try clear hb2); (try clear hk); (try clear hi)))
    go_ret
    exact ⟨by first | rfl | (simp [eWn, eWs] <;> rfl) | (simp [*, eWn, eWs] <;> rfl), by repeat (first | (with_reducible first | exact HB.out | apply bAl | apply pbD | apply bD1) | exact HB.out)⟩
   rw [if_pos c15] at H
   have c15b0 : (a0 == 8) = true := beq_iff_eq.mpr c15
   have c15b1 : (a0 != 8) = false := bne_eq_false_iff_eq.mpr c15
   clear c15
   replace H := oB H
   obtain ⟨t205, A160, H⟩ := H
   try dsimp only at H
   have A16 := aK A160
   clear A160
   replace H := oB H
   obtain ⟨t208, A170, H⟩ := H
   replace H : (some t208) = some r := H
   have A17 := aK A170
   clear A170
   obtain rfl := oI H
   go_enter Try.func80, Try.ntmps80
   go_wp2_with (first | ((with_reducible refine gate_callee (f := 86) rfl ?_); refine goesL_ (some 30) rfl rfl Try.func86 (by kernel_rfl) rfl #[] rfl (by (try simp only [qM0, qM1, qM2]); first | done | rfl | (simp only [qD0, qD1]; rfl)) ?_; (with_reducible refine (rules_Names.calls  t205 _ A16.out).mono ?_); rintro e w18 ⟨v206, rfl, ho0, hb⟩; refine ⟨_, rfl, ?_⟩; have n0_ := aK (Kd.R_lower ho0 (bSz (by repeat (first | (with_reducible first | exact HB.out | apply bAl | apply pbD | apply bD1) | exact HB.out)))); have n1_ := aK (bSp (by repeat (first | (with_reducible first | exact HB.out | apply bAl | apply pbD | apply bD1) | exact HB.out)) hb); clear HB; have HO207 := n0_; have HB := n1_; clear n0_ n1_; (try clear hb); (try clear hb2); (try clear hk); (try clear hi); (try clear ho0); obtain ⟨Ao19, co19, eo19⟩ := Kd.R_slice HO207.out; subst eo19) | ((with_reducible refine gate_callee (f := 97) rfl ?_); refine goesL_ (some 32) rfl rfl Try.func97 (by kernel_rfl) rfl #[.slice Ao19 t205.length co19, .string a1] rfl (by (try simp only [qM0, qM1, qM2]); first | done | rfl | (simp only [qD0, qD1]; rfl)) ?_; (with_reducible refine (slices_Contains_string_string.calls k _ _ t205 a1 t208 _ ?side1 ?side2 A17.out).mono ?_); (case side1 => repeat (first | exact (Kd.R_reads' HO207.out).2.2 | (with_reducible refine Kd.C_alloc ?_ _) | (with_reducible refine Kd.C_drewN ?_ _) | (with_reducible refine Kd.C_drew ?_))); (case side2 => exact (Kd.R_reads' HO207.out).2.1); rintro e w' ⟨rfl, ⟨nd, rfl⟩⟩; refine ⟨_, rfl, ?_⟩))
   go_ret
   exact ⟨by first | rfl | (simp [eWn, eWs] <;> rfl) | (simp [*, eWn, eWs] <;> rfl), by repeat (first | (with_reducible first | exact HB.out | apply bAl | apply pbD | apply bD1) | exact HB.out)⟩
  rw [if_pos c9] at H
  have c9b0 : (a0 == 7) = true := beq_iff_eq.mpr c9
  have c9b1 : (a0 != 7) = false := bne_eq_false_iff_eq.mpr c9
  clear c9
  by_cases c10 : (a1.size : Int) = 1
  rotate_left
  ·
   rw [if_neg c10] at H
   have c10b0 : ((a1.size : Int) == 1) = false := beq_eq_false_iff_ne.mpr c10
   have c10b1 : ((a1.size : Int) != 1) = true := bne_iff_ne.mpr c10
   obtain rfl := oI H
   go_enter Try.func80, Try.ntmps80
   go_wp2
   go_ret
   exact ⟨by first | rfl | (simp [eWn, eWs] <;> rfl) | (simp [*, eWn, eWs] <;> rfl), by repeat (first | (with_reducible first | exact HB.out | apply bAl | apply pbD | apply bD1) | exact HB.out)⟩
  rw [if_pos c10] at H
  have c10b0 : ((a1.size : Int) == 1) = true := beq_iff_eq.mpr c10
  have c10b1 : ((a1.size : Int) != 1) = false := bne_eq_false_iff_eq.mpr c10
  clear c10
  by_cases c11 : 0 < (a1.size : Int)
  rotate_left
  ·
   rw [if_neg c11] at H
   exact absurd H (by simp)
  rw [if_pos c11] at H
  have c11b0 : decide (0 < (a1.size : Int)) = true := decide_eq_true c11
  have c11b1 : decide (0 < a1.size) = true := decide_eq_true (by omega)
  clear c11
  replace H := oB H
  obtain ⟨t204, A130, H⟩ := H
  replace H : (some (t204 == 3)) = some r := H
  have A13 := aK A130
  clear A130
  obtain rfl := oI H
  have p12 : 0 ≤ (0 : Int) := (by omega)
  have q12 : 0 < a1.size := (by have : (0 : Int) < (a1.size : Int) := odT (by first | (with_reducible assumption) | assumption); omega)
  have hx12 : ∀ h : 0 < a1.size, ((a1[0]'h).toNat : Int) = bt a1 0 := bt_at a1 0
  clear p12
  have qi12 : (0 < (a1.size : Int)) = True := eq_true (odT (by first | (with_reducible assumption) | assumption))
  replace q12 := eq_true q12
  go_enter Try.func80, Try.ntmps80
  go_wp2_with (first | (go_at_call 55; (with_reducible refine (chars_Class.calls (bt a1 0) t204 _ A13.out).mono ?_); rintro e w14 ⟨rfl, hb⟩; have n0_ := aK (bSp (by repeat (first | (with_reducible first | exact HB.out | apply bAl | apply pbD | apply bD1) | exact HB.out)) hb); clear HB; have HB := n0_; clear n0_; (try clear hb); (try clear hb2); (try clear hk); (try clear hi)))
  go_ret
  exact ⟨by first | rfl | (simp [eWn, eWs] <;> rfl) | (simp [*, eWn, eWs] <;> rfl), by repeat (first | (with_reducible first | exact HB.out | apply bAl | apply pbD | apply bD1) | exact HB.out)⟩
 rw [if_pos c3] at H
 have c3b0 : (a0 == 6) = true := beq_iff_eq.mpr c3
 have c3b1 : (a0 != 6) = false := bne_eq_false_iff_eq.mpr c3
 clear c3
 by_cases c4 : (a1.size : Int) = 1
 rotate_left
 ·
  rw [if_neg c4] at H
  have c4b0 : ((a1.size : Int) == 1) = false := beq_eq_false_iff_ne.mpr c4
  have c4b1 : ((a1.size : Int) != 1) = true := bne_iff_ne.mpr c4
  obtain rfl := oI H
  go_enter Try.func80, Try.ntmps80
  go_wp2
  go_ret
  exact ⟨by first | rfl | (simp [eWn, eWs] <;> rfl) | (simp [*, eWn, eWs] <;> rfl), by repeat (first | (with_reducible first | exact HB.out | apply bAl | apply pbD | apply bD1) | exact HB.out)⟩
 rw [if_pos c4] at H
 have c4b0 : ((a1.size : Int) == 1) = true := beq_iff_eq.mpr c4
 have c4b1 : ((a1.size : Int) != 1) = false := bne_eq_false_iff_eq.mpr c4
 clear c4
 by_cases c5 : 0 < (a1.size : Int)
 rotate_left
 ·
  rw [if_neg c5] at H
  exact absurd H (by simp)
 rw [if_pos c5] at H
 have c5b0 : decide (0 < (a1.size : Int)) = true := decide_eq_true c5
 have c5b1 : decide (0 < a1.size) = true := decide_eq_true (by omega)
 clear c5
 replace H := oB H
 obtain ⟨t203, A70, H⟩ := H
 replace H : (some (t203 == 4)) = some r := H
 have A7 := aK A70
 clear A70
 obtain rfl := oI H
 have p6 : 0 ≤ (0 : Int) := (by omega)
 have q6 : 0 < a1.size := (by have : (0 : Int) < (a1.size : Int) := odT (by first | (with_reducible assumption) | assumption); omega)
 have hx6 : ∀ h : 0 < a1.size, ((a1[0]'h).toNat : Int) = bt a1 0 := bt_at a1 0
 clear p6
 have qi6 : (0 < (a1.size : Int)) = True := eq_true (odT (by first | (with_reducible assumption) | assumption))
 replace q6 := eq_true q6
 go_enter Try.func80, Try.ntmps80
 go_wp2_with (first | (go_at_call 55; (with_reducible refine (chars_Class.calls (bt a1 0) t203 _ A7.out).mono ?_); rintro e w8 ⟨rfl, hb⟩; have n0_ := aK (bSp (by repeat (first | (with_reducible first | exact HB.out | apply bAl | apply pbD | apply bD1) | exact HB.out)) hb); clear HB; have HB := n0_; clear n0_; (try clear hb); (try clear hb2); (try clear hk); (try clear hi)))
 go_ret
 exact ⟨by first | rfl | (simp [eWn, eWs] <;> rfl) | (simp [*, eWn, eWs] <;> rfl), by repeat (first | (with_reducible first | exact HB.out | apply bAl | apply pbD | apply bD1) | exact HB.out)⟩
def rules_May.j0 : Nat → Bool → Int → ByteArray → ByteArray → Int → Int → Option (Bool)
 | 0, _, _, _, _, _, _ => none
 | k + 1, x11, x212000, x212001, x212002, x212003, x212004 => if x11 = true then (some false) else ((rules_letters.f x212000).bind fun t215 => (if t215 = true then (if x212003 ≥ 0 then (some (decide (x212003 ≤ 99))) else (some false)) else (some (x212003 == 0))))
def rules_May.f (k : Nat) (a0_0 : Int) (a0_1 : ByteArray) (a0_2 : ByteArray) (a0_3 : Int) (a0_4 : Int) : Option (Bool) := (cell_Print.f k a0_2).bind fun bt212 => (if a0_0 < 1 then (rules_May.j0 k true a0_0 a0_1 a0_2 a0_3 a0_4) else (if a0_0 > 8 then (rules_May.j0 k true a0_0 a0_1 a0_2 a0_3 a0_4) else ((rules_left.f k a0_0 a0_1).bind fun t214 => (if t214 = true then (rules_May.j0 k (bt212.2 != 0) a0_0 a0_1 a0_2 a0_3 a0_4) else (rules_May.j0 k true a0_0 a0_1 a0_2 a0_3 a0_4)))))
theorem rules_May.calls (k : Nat) (a0_0 : Int) (a0_1 : ByteArray) (a0_2 : ByteArray) (a0_3 : Int) (a0_4 : Int) (r : Bool) (w : World) (h : rules_May.f k a0_0 a0_1 a0_2 a0_3 a0_4 = some r) :
  Calls Try.prog 61 #[.agg #[.int .i64 a0_0, .string a0_1, .string a0_2, .int .i64 a0_3, .int .i64 a0_4]] w fun e w' => e = .returned (.bool r) ∧ Below w.heap.size w w' := by
 have hu33 := Try.underlying33
 have HB := aK (Below.refl w.heap.size w)
 have H : ((cell_Print.f k a0_2).bind fun bt212 => (if a0_0 < 1 then (rules_May.j0 k true a0_0 a0_1 a0_2 a0_3 a0_4) else (if a0_0 > 8 then (rules_May.j0 k true a0_0 a0_1 a0_2 a0_3 a0_4) else ((rules_left.f k a0_0 a0_1).bind fun t214 => (if t214 = true then (rules_May.j0 k (bt212.2 != 0) a0_0 a0_1 a0_2 a0_3 a0_4) else (rules_May.j0 k true a0_0 a0_1 a0_2 a0_3 a0_4)))))) = some r := h
 clear h
 replace H := oB H
 obtain ⟨⟨t212, t213⟩, A20, H⟩ := H
 try dsimp only at H
 have A2 := aK A20
 clear A20
 have HC3 := aK H
 clear H
 go_enter Try.func61, Try.ntmps61
 go_upto_region 2 with (first | ((with_reducible refine gate_dst (N := 1) rfl ?_); refine box_event ?hg (N := 1) ?hd (cs := #[.int .i64 a0_0, .string a0_1, .string a0_2, .int .i64 a0_3, .int .i64 a0_4]) (t := 33) ?hr ?_; (case hd => rfl); (case hg => rfl); (case hr => first | (go_simp; done) | (go_simp; rfl)); intro gb211 hg w4 hbox hb; have n0_ := aK (bSp (by repeat (first | (with_reducible first | exact HB.out | apply bAl | apply pbD | apply bD1) | exact HB.out)) hb); have n1_ := aK (hbox); have n2_ := aK ((by rw [hg]; exact (bSz (by repeat (first | (with_reducible first | exact HB.out | apply bAl | apply pbD | apply bD1) | exact HB.out))) : w.heap.size ≤ gb211)); have n3_ := aK ((by rw [hg]; exact (bSz (by repeat (first | (with_reducible first | exact HB.out | apply bAl | apply pbD | apply bD1) | exact HB.out))) : w.heap.size ≤ gb211)); clear HB; have HB := n0_; have BK211 := n1_; have GW211 := n2_; have GE211 := n3_; clear n0_ n1_ n2_ n3_; clear hb hbox hg; have hcz5_0 : w4.cell? ⟨gb211, 0, none⟩ = some (.int .i64 a0_0) := (kCe BK211.out 0).trans rfl; have hcz5_1 : w4.cell? ⟨gb211, 1, none⟩ = some (.string a0_1) := (kCe BK211.out 1).trans rfl; have hcz5_2 : w4.cell? ⟨gb211, 2, none⟩ = some (.string a0_2) := (kCe BK211.out 2).trans rfl; have hcz5_3 : w4.cell? ⟨gb211, 3, none⟩ = some (.int .i64 a0_3) := (kCe BK211.out 3).trans rfl; have hcz5_4 : w4.cell? ⟨gb211, 4, none⟩ = some (.int .i64 a0_4) := (kCe BK211.out 4).trans rfl) | ((with_reducible refine gate_callee (f := 79) rfl ?_); refine goesL_ (some 8) rfl rfl Try.func79 (by kernel_rfl) rfl #[.string a0_2] rfl (by (try simp only [qM0, qM1, qM2]); first | done | rfl | (simp only [qD0, qD1]; rfl)) ?_; (with_reducible refine (cell_Print.calls k a0_2 t212 t213 _ A2.out).mono ?_); rintro e w6 ⟨rfl, hb⟩; refine ⟨_, rfl, ?_⟩; have n0_ := aK (kBe (g := gb211) (o := .cells #[.int .i64 a0_0, .string a0_1, .string a0_2, .int .i64 a0_3, .int .i64 a0_4] 33 (0, 0)) (by (with_reducible repeat (first | refine kDN ?_ _ | refine kDr ?_ | refine kAl ?_ _)); exact BK211.out) hb); have n1_ := aK (bSp (by repeat (first | (with_reducible first | exact HB.out | apply bAl | apply pbD | apply bD1 | refine bSt ?_ GE211.out) | exact HB.out)) hb); clear BK211; clear HB; have BK211 := n0_; have HB := n1_; clear n0_ n1_; (try clear hb); (try clear hb2); (try clear hk); (try clear hi)))
 (try simp only [Act.put, qSa, qS0, qS1])
 go_cut [11] (fun v11 wc => ∃ (kq : Nat) (x11_2 : Bool), v11 = .bool x11_2 ∧ Aside0 (rules_May.j0 kq x11_2 a0_0 a0_1 a0_2 a0_3 a0_4 = some r) ∧ Aside0 (kq ≤ k) ∧ Aside0 (wc.heap[gb211]? = some (.cells #[.int .i64 a0_0, .string a0_1, .string a0_2, .int .i64 a0_3, .int .i64 a0_4] 33 (0, 0))) ∧ Aside0 (Below w.heap.size w wc))
 case first =>
  have H := HC3.out
  clear HC3
  by_cases c7 : a0_0 < 1
  rotate_left
  ·
   rw [if_neg c7] at H
   have c7b0 : decide (a0_0 < 1) = false := decide_eq_false c7
   clear c7
   (first | rw [c7b0] | (simp only [i64_w, i32_w]; rw [c7b0]) | skip)
   by_cases c9 : a0_0 > 8
   rotate_left
   ·
    rw [if_neg c9] at H
    have c9b0 : decide (8 < a0_0) = false := decide_eq_false c9
    clear c9
    replace H := oB H
    obtain ⟨t214, A110, H⟩ := H
    try dsimp only at H
    have A11 := aK A110
    clear A110
    by_cases c12 : t214 = true
    rotate_left
    ·
     replace c12 := Bool.eq_false_iff.mpr c12
     subst c12
     have H1 : (rules_May.j0 k true a0_0 a0_1 a0_2 a0_3 a0_4) = some r := by rw [if_neg (show ¬ (false = true) by decide)] at H; exact H
     clear H
     have H := H1
     clear H1
     have H' := aK H
     clear H
     have hcz15_0 : w6.cell? ⟨gb211, 0, none⟩ = some (.int .i64 a0_0) := (kCe BK211.out 0).trans rfl
     have hcz15_1 : w6.cell? ⟨gb211, 1, none⟩ = some (.string a0_1) := (kCe BK211.out 1).trans rfl
     have hcz15_2 : w6.cell? ⟨gb211, 2, none⟩ = some (.string a0_2) := (kCe BK211.out 2).trans rfl
     have hcz15_3 : w6.cell? ⟨gb211, 3, none⟩ = some (.int .i64 a0_3) := (kCe BK211.out 3).trans rfl
     have hcz15_4 : w6.cell? ⟨gb211, 4, none⟩ = some (.int .i64 a0_4) := (kCe BK211.out 4).trans rfl
     go_wp2_with (first | (go_at_call 80; (with_reducible refine (rules_left.calls k a0_0 a0_1 false _ A11.out).mono ?_); rintro e w16 ⟨rfl, hb⟩; have n0_ := aK (kBe (g := gb211) (o := .cells #[.int .i64 a0_0, .string a0_1, .string a0_2, .int .i64 a0_3, .int .i64 a0_4] 33 (0, 0)) (by (with_reducible repeat (first | refine kDN ?_ _ | refine kDr ?_ | refine kAl ?_ _)); exact BK211.out) hb); have n1_ := aK (bSp (by repeat (first | (with_reducible first | exact HB.out | apply bAl | apply pbD | apply bD1 | refine bSt ?_ GE211.out) | exact HB.out)) hb); clear BK211; clear HB; have BK211 := n0_; have HB := n1_; clear n0_ n1_; (try clear hb); (try clear hb2); (try clear hk); (try clear hi)))
     go_meet
     case rel => exact ⟨_, (true), (by first | rfl | (simp; done) | (simp [*]; done)), H', ⟨by first | omega | exact Nat.le_refl _⟩, ⟨by (with_reducible repeat (first | refine kDN ?_ _ | refine kDr ?_ | refine kAl ?_ _)); exact BK211.out⟩, ⟨by repeat (first | (with_reducible first | exact HB.out | apply bAl | apply pbD | apply bD1 | refine bSt ?_ GE211.out) | exact HB.out)⟩⟩
    subst c12
    have H1 : (rules_May.j0 k (t213 != 0) a0_0 a0_1 a0_2 a0_3 a0_4) = some r := by rw [if_pos rfl] at H; exact H
    clear H
    have H := H1
    clear H1
    have H' := aK H
    clear H
    have hcz13_0 : w6.cell? ⟨gb211, 0, none⟩ = some (.int .i64 a0_0) := (kCe BK211.out 0).trans rfl
    have hcz13_1 : w6.cell? ⟨gb211, 1, none⟩ = some (.string a0_1) := (kCe BK211.out 1).trans rfl
    have hcz13_2 : w6.cell? ⟨gb211, 2, none⟩ = some (.string a0_2) := (kCe BK211.out 2).trans rfl
    have hcz13_3 : w6.cell? ⟨gb211, 3, none⟩ = some (.int .i64 a0_3) := (kCe BK211.out 3).trans rfl
    have hcz13_4 : w6.cell? ⟨gb211, 4, none⟩ = some (.int .i64 a0_4) := (kCe BK211.out 4).trans rfl
    go_wp2_with (first | (go_at_call 80; (with_reducible refine (rules_left.calls k a0_0 a0_1 true _ A11.out).mono ?_); rintro e w14 ⟨rfl, hb⟩; have n0_ := aK (kBe (g := gb211) (o := .cells #[.int .i64 a0_0, .string a0_1, .string a0_2, .int .i64 a0_3, .int .i64 a0_4] 33 (0, 0)) (by (with_reducible repeat (first | refine kDN ?_ _ | refine kDr ?_ | refine kAl ?_ _)); exact BK211.out) hb); have n1_ := aK (bSp (by repeat (first | (with_reducible first | exact HB.out | apply bAl | apply pbD | apply bD1 | refine bSt ?_ GE211.out) | exact HB.out)) hb); clear BK211; clear HB; have BK211 := n0_; have HB := n1_; clear n0_ n1_; (try clear hb); (try clear hb2); (try clear hk); (try clear hi)))
    go_meet
    case rel => exact ⟨_, ((t213 != 0)), (by first | rfl | (simp; done) | (simp [*]; done)), H', ⟨by first | omega | exact Nat.le_refl _⟩, ⟨by (with_reducible repeat (first | refine kDN ?_ _ | refine kDr ?_ | refine kAl ?_ _)); exact BK211.out⟩, ⟨by repeat (first | (with_reducible first | exact HB.out | apply bAl | apply pbD | apply bD1 | refine bSt ?_ GE211.out) | exact HB.out)⟩⟩
   rw [if_pos c9] at H
   have c9b0 : decide (8 < a0_0) = true := decide_eq_true c9
   clear c9
   have H' := aK H
   clear H
   have hcz10_0 : w6.cell? ⟨gb211, 0, none⟩ = some (.int .i64 a0_0) := (kCe BK211.out 0).trans rfl
   have hcz10_1 : w6.cell? ⟨gb211, 1, none⟩ = some (.string a0_1) := (kCe BK211.out 1).trans rfl
   have hcz10_2 : w6.cell? ⟨gb211, 2, none⟩ = some (.string a0_2) := (kCe BK211.out 2).trans rfl
   have hcz10_3 : w6.cell? ⟨gb211, 3, none⟩ = some (.int .i64 a0_3) := (kCe BK211.out 3).trans rfl
   have hcz10_4 : w6.cell? ⟨gb211, 4, none⟩ = some (.int .i64 a0_4) := (kCe BK211.out 4).trans rfl
   go_wp2
   go_meet
   case rel => exact ⟨_, (true), (by first | rfl | (simp; done) | (simp [*]; done)), H', ⟨by first | omega | exact Nat.le_refl _⟩, ⟨by (with_reducible repeat (first | refine kDN ?_ _ | refine kDr ?_ | refine kAl ?_ _)); exact BK211.out⟩, ⟨by repeat (first | (with_reducible first | exact HB.out | apply bAl | apply pbD | apply bD1 | refine bSt ?_ GE211.out) | exact HB.out)⟩⟩
  rw [if_pos c7] at H
  have c7b0 : decide (a0_0 < 1) = true := decide_eq_true c7
  clear c7
  (first | rw [c7b0] | (simp only [i64_w, i32_w]; rw [c7b0]) | skip)
  have H' := aK H
  clear H
  have hcz8_0 : w6.cell? ⟨gb211, 0, none⟩ = some (.int .i64 a0_0) := (kCe BK211.out 0).trans rfl
  have hcz8_1 : w6.cell? ⟨gb211, 1, none⟩ = some (.string a0_1) := (kCe BK211.out 1).trans rfl
  have hcz8_2 : w6.cell? ⟨gb211, 2, none⟩ = some (.string a0_2) := (kCe BK211.out 2).trans rfl
  have hcz8_3 : w6.cell? ⟨gb211, 3, none⟩ = some (.int .i64 a0_3) := (kCe BK211.out 3).trans rfl
  have hcz8_4 : w6.cell? ⟨gb211, 4, none⟩ = some (.int .i64 a0_4) := (kCe BK211.out 4).trans rfl
  go_wp2
  go_meet
  case rel => exact ⟨_, (true), (by first | rfl | (simp; done) | (simp [*]; done)), H', ⟨by first | omega | exact Nat.le_refl _⟩, ⟨by (with_reducible repeat (first | refine kDN ?_ _ | refine kDr ?_ | refine kAl ?_ _)); exact BK211.out⟩, ⟨by repeat (first | (with_reducible first | exact HB.out | apply bAl | apply pbD | apply bD1 | refine bSt ?_ GE211.out) | exact HB.out)⟩⟩
 case rest =>
  clear HC3
  try clear c1
  try clear p2
  try clear c6
  try clear c7
  try clear c7b0
  try clear c9
  try clear c9b0
  try clear c12
  try clear hcz10_0
  try clear hcz10_1
  try clear hcz10_2
  try clear hcz10_3
  try clear hcz10_4
  try clear hcz13_0
  try clear hcz13_1
  try clear hcz13_2
  try clear hcz13_3
  try clear hcz13_4
  try clear hcz15_0
  try clear hcz15_1
  try clear hcz15_2
  try clear hcz15_3
  try clear hcz15_4
  try clear hcz5_0
  try clear hcz5_1
  try clear hcz5_2
  try clear hcz5_3
  try clear hcz5_4
  try clear hcz8_0
  try clear hcz8_1
  try clear hcz8_2
  try clear hcz8_3
  try clear hcz8_4
  obtain ⟨kq, x11_2, rfl, HA, HJ2, BK211, HB⟩ := hcut
  cases kq with
  | zero => exact absurd HA.out (by simp [rules_May.j0])
  | succ kj2 =>
   have H := HA.out
   clear HA
   simp only [rules_May.j0] at H
   by_cases c17 : x11_2 = true
   rotate_left
   ·
    replace c17 := Bool.eq_false_iff.mpr c17
    subst c17
    have H1 : ((rules_letters.f a0_0).bind fun t215 => (if t215 = true then (if a0_3 ≥ 0 then (some (decide (a0_3 ≤ 99))) else (some false)) else (some (a0_3 == 0)))) = some r := by rw [if_neg (show ¬ (false = true) by decide)] at H; exact H
    clear H
    have H := H1
    clear H1
    replace H := oB H
    obtain ⟨t215, A180, H⟩ := H
    try dsimp only at H
    have A18 := aK A180
    clear A180
    by_cases c19 : t215 = true
    rotate_left
    ·
     replace c19 := Bool.eq_false_iff.mpr c19
     subst c19
     have H1 : (some (a0_3 == 0)) = some r := by rw [if_neg (show ¬ (false = true) by decide)] at H; exact H
     clear H
     have H := H1
     clear H1
     obtain rfl := oI H
     have hcz23_0 : wc.cell? ⟨gb211, 0, none⟩ = some (.int .i64 a0_0) := (kCe BK211.out 0).trans rfl
     have hcz23_1 : wc.cell? ⟨gb211, 1, none⟩ = some (.string a0_1) := (kCe BK211.out 1).trans rfl
     have hcz23_2 : wc.cell? ⟨gb211, 2, none⟩ = some (.string a0_2) := (kCe BK211.out 2).trans rfl
     have hcz23_3 : wc.cell? ⟨gb211, 3, none⟩ = some (.int .i64 a0_3) := (kCe BK211.out 3).trans rfl
     have hcz23_4 : wc.cell? ⟨gb211, 4, none⟩ = some (.int .i64 a0_4) := (kCe BK211.out 4).trans rfl
     go_wp2_with (first | ((with_reducible refine gate_callee (f := 81) rfl ?_); refine goesL_ (some 35) rfl rfl Try.func81 (by kernel_rfl) rfl #[.int .i64 a0_0] rfl (by (try simp only [qM0, qM1, qM2]); first | done | rfl | (simp only [qD0, qD1]; rfl)) ?_; (with_reducible refine (rules_letters.calls a0_0 false _ A18.out).mono ?_); rintro e w' ⟨rfl, ⟨nd, rfl⟩⟩; refine ⟨_, rfl, ?_⟩))
     go_ret
     exact ⟨by first | rfl | (simp [eWn, eWs] <;> rfl) | (simp [*, eWn, eWs] <;> rfl), by repeat (first | (with_reducible first | exact HB.out | apply bAl | apply pbD | apply bD1 | refine bSt ?_ GE211.out) | exact HB.out)⟩
    subst c19
    have H1 : (if a0_3 ≥ 0 then (some (decide (a0_3 ≤ 99))) else (some false)) = some r := by rw [if_pos rfl] at H; exact H
    clear H
    have H := H1
    clear H1
    by_cases c20 : a0_3 ≥ 0
    rotate_left
    ·
     rw [if_neg c20] at H
     have c20b0 : decide (0 ≤ a0_3) = false := decide_eq_false c20
     clear c20
     obtain rfl := oI H
     have hcz22_0 : wc.cell? ⟨gb211, 0, none⟩ = some (.int .i64 a0_0) := (kCe BK211.out 0).trans rfl
     have hcz22_1 : wc.cell? ⟨gb211, 1, none⟩ = some (.string a0_1) := (kCe BK211.out 1).trans rfl
     have hcz22_2 : wc.cell? ⟨gb211, 2, none⟩ = some (.string a0_2) := (kCe BK211.out 2).trans rfl
     have hcz22_3 : wc.cell? ⟨gb211, 3, none⟩ = some (.int .i64 a0_3) := (kCe BK211.out 3).trans rfl
     have hcz22_4 : wc.cell? ⟨gb211, 4, none⟩ = some (.int .i64 a0_4) := (kCe BK211.out 4).trans rfl
     go_wp2_with (first | ((with_reducible refine gate_callee (f := 81) rfl ?_); refine goesL_ (some 35) rfl rfl Try.func81 (by kernel_rfl) rfl #[.int .i64 a0_0] rfl (by (try simp only [qM0, qM1, qM2]); first | done | rfl | (simp only [qD0, qD1]; rfl)) ?_; (with_reducible refine (rules_letters.calls a0_0 true _ A18.out).mono ?_); rintro e w' ⟨rfl, ⟨nd, rfl⟩⟩; refine ⟨_, rfl, ?_⟩))
     go_ret
     exact ⟨by first | rfl | (simp [eWn, eWs] <;> rfl) | (simp [*, eWn, eWs] <;> rfl), by repeat (first | (with_reducible first | exact HB.out | apply bAl | apply pbD | apply bD1 | refine bSt ?_ GE211.out) | exact HB.out)⟩
    rw [if_pos c20] at H
    have c20b0 : decide (0 ≤ a0_3) = true := decide_eq_true c20
    clear c20
    obtain rfl := oI H
    have hcz21_0 : wc.cell? ⟨gb211, 0, none⟩ = some (.int .i64 a0_0) := (kCe BK211.out 0).trans rfl
    have hcz21_1 : wc.cell? ⟨gb211, 1, none⟩ = some (.string a0_1) := (kCe BK211.out 1).trans rfl
    have hcz21_2 : wc.cell? ⟨gb211, 2, none⟩ = some (.string a0_2) := (kCe BK211.out 2).trans rfl
    have hcz21_3 : wc.cell? ⟨gb211, 3, none⟩ = some (.int .i64 a0_3) := (kCe BK211.out 3).trans rfl
    have hcz21_4 : wc.cell? ⟨gb211, 4, none⟩ = some (.int .i64 a0_4) := (kCe BK211.out 4).trans rfl
    go_wp2_with (first | ((with_reducible refine gate_callee (f := 81) rfl ?_); refine goesL_ (some 35) rfl rfl Try.func81 (by kernel_rfl) rfl #[.int .i64 a0_0] rfl (by (try simp only [qM0, qM1, qM2]); first | done | rfl | (simp only [qD0, qD1]; rfl)) ?_; (with_reducible refine (rules_letters.calls a0_0 true _ A18.out).mono ?_); rintro e w' ⟨rfl, ⟨nd, rfl⟩⟩; refine ⟨_, rfl, ?_⟩))
    go_ret
    exact ⟨by first | rfl | (simp [eWn, eWs] <;> rfl) | (simp [*, eWn, eWs] <;> rfl), by repeat (first | (with_reducible first | exact HB.out | apply bAl | apply pbD | apply bD1 | refine bSt ?_ GE211.out) | exact HB.out)⟩
   subst c17
   have H1 : (some false) = some r := by rw [if_pos rfl] at H; exact H
   clear H
   have H := H1
   clear H1
   obtain rfl := oI H
   go_wp2
   go_ret
   exact ⟨by first | rfl | (simp [eWn, eWs] <;> rfl) | (simp [*, eWn, eWs] <;> rfl), by repeat (first | (with_reducible first | exact HB.out | apply bAl | apply pbD | apply bD1 | refine bSt ?_ GE211.out) | exact HB.out)⟩
def check_kept.f (a0_0 : Int) (a0_1 : ByteArray) (a0_2 : ByteArray) (a0_3 : Int) (a0_4 : Int) : Option (Bool) := if a0_0 = 8 then (if a0_1.toList = ([98, 108, 107] : List UInt8) then (some true) else (if a0_1.toList = ([99, 111, 110, 116] : List UInt8) then (some true) else (some (a0_1.toList == ([105, 110, 100] : List UInt8))))) else (some false)
theorem check_kept.calls (a0_0 : Int) (a0_1 : ByteArray) (a0_2 : ByteArray) (a0_3 : Int) (a0_4 : Int) (r : Bool) (w : World) (h : check_kept.f a0_0 a0_1 a0_2 a0_3 a0_4 = some r) :
  Calls Try.prog 82 #[.agg #[.int .i64 a0_0, .string a0_1, .string a0_2, .int .i64 a0_3, .int .i64 a0_4]] w fun e w' => e = .returned (.bool r) ∧ Below w.heap.size w w' := by
 have hu33 := Try.underlying33
 have HB := aK (Below.refl w.heap.size w)
 have H : (if a0_0 = 8 then (if a0_1.toList = ([98, 108, 107] : List UInt8) then (some true) else (if a0_1.toList = ([99, 111, 110, 116] : List UInt8) then (some true) else (some (a0_1.toList == ([105, 110, 100] : List UInt8))))) else (some false)) = some r := h
 clear h
 by_cases c2 : a0_0 = 8
 rotate_left
 ·
  rw [if_neg c2] at H
  have c2b0 : (a0_0 == 8) = false := beq_eq_false_iff_ne.mpr c2
  have c2b1 : (a0_0 != 8) = true := bne_iff_ne.mpr c2
  obtain rfl := oI H
  go_enter Try.func82, Try.ntmps82
  go_wp2_with (first | ((with_reducible refine gate_dst (N := 1) rfl ?_); refine box_event ?hg (N := 1) ?hd (cs := #[.int .i64 a0_0, .string a0_1, .string a0_2, .int .i64 a0_3, .int .i64 a0_4]) (t := 33) ?hr ?_; (case hd => rfl); (case hg => rfl); (case hr => first | (go_simp; done) | (go_simp; rfl)); intro gb216 hg w11 hbox hb; have n0_ := aK (bSp (by repeat (first | (with_reducible first | exact HB.out | apply bAl | apply pbD | apply bD1) | exact HB.out)) hb); have n1_ := aK (hbox); have n2_ := aK ((by rw [hg]; exact (bSz (by repeat (first | (with_reducible first | exact HB.out | apply bAl | apply pbD | apply bD1) | exact HB.out))) : w.heap.size ≤ gb216)); have n3_ := aK ((by rw [hg]; exact (bSz (by repeat (first | (with_reducible first | exact HB.out | apply bAl | apply pbD | apply bD1) | exact HB.out))) : w.heap.size ≤ gb216)); clear HB; have HB := n0_; have BK216 := n1_; have GW216 := n2_; have GE216 := n3_; clear n0_ n1_ n2_ n3_; clear hb hbox hg; have hcz12_0 : w11.cell? ⟨gb216, 0, none⟩ = some (.int .i64 a0_0) := (kCe BK216.out 0).trans rfl; have hcz12_1 : w11.cell? ⟨gb216, 1, none⟩ = some (.string a0_1) := (kCe BK216.out 1).trans rfl; have hcz12_2 : w11.cell? ⟨gb216, 2, none⟩ = some (.string a0_2) := (kCe BK216.out 2).trans rfl; have hcz12_3 : w11.cell? ⟨gb216, 3, none⟩ = some (.int .i64 a0_3) := (kCe BK216.out 3).trans rfl; have hcz12_4 : w11.cell? ⟨gb216, 4, none⟩ = some (.int .i64 a0_4) := (kCe BK216.out 4).trans rfl))
  go_ret
  exact ⟨by first | rfl | (simp [eWn, eWs] <;> rfl) | (simp [*, eWn, eWs] <;> rfl), by repeat (first | (with_reducible first | exact HB.out | apply bAl | apply pbD | apply bD1 | refine bSt ?_ GE216.out) | exact HB.out)⟩
 rw [if_pos c2] at H
 have c2b0 : (a0_0 == 8) = true := beq_iff_eq.mpr c2
 have c2b1 : (a0_0 != 8) = false := bne_eq_false_iff_eq.mpr c2
 clear c2
 by_cases c3 : a0_1.toList = ([98, 108, 107] : List UInt8)
 rotate_left
 ·
  rw [if_neg c3] at H
  have c3b0 : (a0_1.toList == ([98, 108, 107] : List UInt8)) = false := beq_eq_false_iff_ne.mpr c3
  have c3b1 : (a0_1.toList != ([98, 108, 107] : List UInt8)) = true := bne_iff_ne.mpr c3
  by_cases c6 : a0_1.toList = ([99, 111, 110, 116] : List UInt8)
  rotate_left
  ·
   rw [if_neg c6] at H
   have c6b0 : (a0_1.toList == ([99, 111, 110, 116] : List UInt8)) = false := beq_eq_false_iff_ne.mpr c6
   have c6b1 : (a0_1.toList != ([99, 111, 110, 116] : List UInt8)) = true := bne_iff_ne.mpr c6
   obtain rfl := oI H
   go_enter Try.func82, Try.ntmps82
   go_wp2_with (first | ((with_reducible refine gate_dst (N := 1) rfl ?_); refine box_event ?hg (N := 1) ?hd (cs := #[.int .i64 a0_0, .string a0_1, .string a0_2, .int .i64 a0_3, .int .i64 a0_4]) (t := 33) ?hr ?_; (case hd => rfl); (case hg => rfl); (case hr => first | (go_simp; done) | (go_simp; rfl)); intro gb216 hg w9 hbox hb; have n0_ := aK (bSp (by repeat (first | (with_reducible first | exact HB.out | apply bAl | apply pbD | apply bD1) | exact HB.out)) hb); have n1_ := aK (hbox); have n2_ := aK ((by rw [hg]; exact (bSz (by repeat (first | (with_reducible first | exact HB.out | apply bAl | apply pbD | apply bD1) | exact HB.out))) : w.heap.size ≤ gb216)); have n3_ := aK ((by rw [hg]; exact (bSz (by repeat (first | (with_reducible first | exact HB.out | apply bAl | apply pbD | apply bD1) | exact HB.out))) : w.heap.size ≤ gb216)); clear HB; have HB := n0_; have BK216 := n1_; have GW216 := n2_; have GE216 := n3_; clear n0_ n1_ n2_ n3_; clear hb hbox hg; have hcz10_0 : w9.cell? ⟨gb216, 0, none⟩ = some (.int .i64 a0_0) := (kCe BK216.out 0).trans rfl; have hcz10_1 : w9.cell? ⟨gb216, 1, none⟩ = some (.string a0_1) := (kCe BK216.out 1).trans rfl; have hcz10_2 : w9.cell? ⟨gb216, 2, none⟩ = some (.string a0_2) := (kCe BK216.out 2).trans rfl; have hcz10_3 : w9.cell? ⟨gb216, 3, none⟩ = some (.int .i64 a0_3) := (kCe BK216.out 3).trans rfl; have hcz10_4 : w9.cell? ⟨gb216, 4, none⟩ = some (.int .i64 a0_4) := (kCe BK216.out 4).trans rfl))
   go_ret
   exact ⟨by first | rfl | (simp [eWn, eWs] <;> rfl) | (simp [*, eWn, eWs] <;> rfl), by repeat (first | (with_reducible first | exact HB.out | apply bAl | apply pbD | apply bD1 | refine bSt ?_ GE216.out) | exact HB.out)⟩
  rw [if_pos c6] at H
  have c6b0 : (a0_1.toList == ([99, 111, 110, 116] : List UInt8)) = true := beq_iff_eq.mpr c6
  have c6b1 : (a0_1.toList != ([99, 111, 110, 116] : List UInt8)) = false := bne_eq_false_iff_eq.mpr c6
  clear c6
  obtain rfl := oI H
  go_enter Try.func82, Try.ntmps82
  go_wp2_with (first | ((with_reducible refine gate_dst (N := 1) rfl ?_); refine box_event ?hg (N := 1) ?hd (cs := #[.int .i64 a0_0, .string a0_1, .string a0_2, .int .i64 a0_3, .int .i64 a0_4]) (t := 33) ?hr ?_; (case hd => rfl); (case hg => rfl); (case hr => first | (go_simp; done) | (go_simp; rfl)); intro gb216 hg w7 hbox hb; have n0_ := aK (bSp (by repeat (first | (with_reducible first | exact HB.out | apply bAl | apply pbD | apply bD1) | exact HB.out)) hb); have n1_ := aK (hbox); have n2_ := aK ((by rw [hg]; exact (bSz (by repeat (first | (with_reducible first | exact HB.out | apply bAl | apply pbD | apply bD1) | exact HB.out))) : w.heap.size ≤ gb216)); have n3_ := aK ((by rw [hg]; exact (bSz (by repeat (first | (with_reducible first | exact HB.out | apply bAl | apply pbD | apply bD1) | exact HB.out))) : w.heap.size ≤ gb216)); clear HB; have HB := n0_; have BK216 := n1_; have GW216 := n2_; have GE216 := n3_; clear n0_ n1_ n2_ n3_; clear hb hbox hg; have hcz8_0 : w7.cell? ⟨gb216, 0, none⟩ = some (.int .i64 a0_0) := (kCe BK216.out 0).trans rfl; have hcz8_1 : w7.cell? ⟨gb216, 1, none⟩ = some (.string a0_1) := (kCe BK216.out 1).trans rfl; have hcz8_2 : w7.cell? ⟨gb216, 2, none⟩ = some (.string a0_2) := (kCe BK216.out 2).trans rfl; have hcz8_3 : w7.cell? ⟨gb216, 3, none⟩ = some (.int .i64 a0_3) := (kCe BK216.out 3).trans rfl; have hcz8_4 : w7.cell? ⟨gb216, 4, none⟩ = some (.int .i64 a0_4) := (kCe BK216.out 4).trans rfl))
  go_ret
  exact ⟨by first | rfl | (simp [eWn, eWs] <;> rfl) | (simp [*, eWn, eWs] <;> rfl), by repeat (first | (with_reducible first | exact HB.out | apply bAl | apply pbD | apply bD1 | refine bSt ?_ GE216.out) | exact HB.out)⟩
 rw [if_pos c3] at H
 have c3b0 : (a0_1.toList == ([98, 108, 107] : List UInt8)) = true := beq_iff_eq.mpr c3
 have c3b1 : (a0_1.toList != ([98, 108, 107] : List UInt8)) = false := bne_eq_false_iff_eq.mpr c3
 clear c3
 obtain rfl := oI H
 go_enter Try.func82, Try.ntmps82
 go_wp2_with (first | ((with_reducible refine gate_dst (N := 1) rfl ?_); refine box_event ?hg (N := 1) ?hd (cs := #[.int .i64 a0_0, .string a0_1, .string a0_2, .int .i64 a0_3, .int .i64 a0_4]) (t := 33) ?hr ?_; (case hd => rfl); (case hg => rfl); (case hr => first | (go_simp; done) | (go_simp; rfl)); intro gb216 hg w4 hbox hb; have n0_ := aK (bSp (by repeat (first | (with_reducible first | exact HB.out | apply bAl | apply pbD | apply bD1) | exact HB.out)) hb); have n1_ := aK (hbox); have n2_ := aK ((by rw [hg]; exact (bSz (by repeat (first | (with_reducible first | exact HB.out | apply bAl | apply pbD | apply bD1) | exact HB.out))) : w.heap.size ≤ gb216)); have n3_ := aK ((by rw [hg]; exact (bSz (by repeat (first | (with_reducible first | exact HB.out | apply bAl | apply pbD | apply bD1) | exact HB.out))) : w.heap.size ≤ gb216)); clear HB; have HB := n0_; have BK216 := n1_; have GW216 := n2_; have GE216 := n3_; clear n0_ n1_ n2_ n3_; clear hb hbox hg; have hcz5_0 : w4.cell? ⟨gb216, 0, none⟩ = some (.int .i64 a0_0) := (kCe BK216.out 0).trans rfl; have hcz5_1 : w4.cell? ⟨gb216, 1, none⟩ = some (.string a0_1) := (kCe BK216.out 1).trans rfl; have hcz5_2 : w4.cell? ⟨gb216, 2, none⟩ = some (.string a0_2) := (kCe BK216.out 2).trans rfl; have hcz5_3 : w4.cell? ⟨gb216, 3, none⟩ = some (.int .i64 a0_3) := (kCe BK216.out 3).trans rfl; have hcz5_4 : w4.cell? ⟨gb216, 4, none⟩ = some (.int .i64 a0_4) := (kCe BK216.out 4).trans rfl))
 go_ret
 exact ⟨by first | rfl | (simp [eWn, eWs] <;> rfl) | (simp [*, eWn, eWs] <;> rfl), by repeat (first | (with_reducible first | exact HB.out | apply bAl | apply pbD | apply bD1 | refine bSt ?_ GE216.out) | exact HB.out)⟩
end Go.Proofs.Ytbpbniemjjhecaa.PChk
