import Derived.Test.YtbpbniemjjhecaaZPChk0
namespace Go.Proofs.Ytbpbniemjjhecaa.PChk
open Go.RowKit Go.Proofs.Ytbpbniemjjhecaa.G Go.Proofs.YtbpbniemjjhecaaW.PrintWords Go.Proofs.YtbpbniemjjhecaaW.PrintLast Go.Proofs.YtbpbniemjjhecaaW.PrintMore
attribute [local go_sem] max2_int min2_int max_two min_two max_three min_three max_four min_four
set_option linter.unusedVariables false
set_option linter.unusedSimpArgs false
set_option maxHeartbeats 8000000
set_option maxRecDepth 100000
def r10_Word.l0 : Nat → List (S33) → ByteArray → Int → Option (Int × Bool)
 | 0, _, _, _ => none
 | k + 1, x0, x1, x6 => if x6 < (x0.length : Int) then (if 0 ≤ x6 then (if ((rd_T33 x0 x6).f0) = 5 then (if ((rd_T33 x0 x6).f2).toList = x1.toList then (some (x6, true)) else (r10_Word.l0 k x0 x1 (wrap64 (x6 + 1)))) else (r10_Word.l0 k x0 x1 (wrap64 (x6 + 1)))) else (none)) else (some (0, false))
def r10_Word.f (k : Nat) (l0 : List (S33)) (a1 : ByteArray) : Option (Int × Bool) := r10_Word.l0 k l0 a1 0
theorem r10_Word.calls (k : Nat) (A0 : Option Addr) (c0 : Nat) (l0 : List (S33)) (a1 : ByteArray) (r1 : Int) (r2 : Bool) (w : World) (hr0 : Kd.C k33 w A0 l0.length l0) (hc0 : l0.length ≤ c0) (h : r10_Word.f k l0 a1 = some (r1, r2)) :
  Calls Try.prog 21 #[.slice A0 l0.length c0, .string a1] w fun e w' => e = .returned (.tuple #[.int .i64 r1, .bool r2]) ∧ Drawn0 w w' := by
 have HR0 := aK hr0
 have HC0 := aK hc0
 clear hr0 hc0
 have H : (r10_Word.l0 k l0 a1 0) = some (r1, r2) := h
 clear h
 have H' := aK H
 clear H
 go_enter Try.func21, Try.ntmps21
 go_wp2
 go_loopg [6] k (fun kq v6 w' => ∃ (x6_1 : Int), v6 = .int .i64 x6_1 ∧ Aside0 (r10_Word.l0 kq l0 a1 x6_1 = some (r1, r2)) ∧ Aside0 (kq ≤ k) ∧ Drawn0 w w')
 case atStart => exact ⟨(0), (by first | rfl | (simp; done) | (simp [*]; done)), H', ⟨Nat.le_refl _⟩, by repeat (first | exact Drawn0.refl _ | apply Drawn0.step)⟩
 case round =>
  clear H'
  try clear c2
  try clear p2
  obtain ⟨x6_1, rfl, HA, HK1, ⟨m1, rfl⟩⟩ := hrel
  cases gk with
  | zero => exact absurd HA.out (by simp [r10_Word.l0])
  | succ k1 =>
   have H := HA.out
   clear HA
   simp only [r10_Word.l0] at H
   by_cases c3 : x6_1 < (l0.length : Int)
   rotate_left
   ·
    rw [if_neg c3] at H
    have c3b0 : decide (x6_1 < (l0.length : Int)) = false := decide_eq_false c3
    clear c3
    simp only [Option.some.injEq, Prod.mk.injEq] at H
    obtain ⟨rfl, rfl⟩ := H
    go_wp2
    go_ret2
    exact ⟨by first | rfl | (simp; done) | (simp [*]; done), by repeat (first | exact Drawn0.refl _ | apply Drawn0.step)⟩
   rw [if_pos c3] at H
   have c3b0 : decide (x6_1 < (l0.length : Int)) = true := decide_eq_true c3
   clear c3
   by_cases c4 : 0 ≤ x6_1
   rotate_left
   ·
    rw [if_neg c4] at H
    exact absurd H (by simp)
   rw [if_pos c4] at H
   have c4b0 : decide (0 ≤ x6_1) = true := decide_eq_true c4
   clear c4
   by_cases c5 : ((rd_T33 l0 x6_1).f0) = 5
   rotate_left
   ·
    rw [if_neg c5] at H
    have c5b0 : (((rd_T33 l0 x6_1).f0) == 5) = false := beq_eq_false_iff_ne.mpr c5
    have c5b1 : (((rd_T33 l0 x6_1).f0) != 5) = true := bne_iff_ne.mpr c5
    have H' := aK H
    clear H
    have p303 : 0 ≤ (x6_1 : Int) := odT (by first | (with_reducible assumption) | assumption)
    have q303 : x6_1 < (l0.length : Int) := odT (by first | (with_reducible assumption) | assumption)
    obtain ⟨ad303, e303, hx303_0, hx303_1, hx303_2, hx303_3, hx303_4⟩ := at_T33 HR0.out x6_1 p303 q303
    cases e303
    replace p303 := eq_true p303
    replace q303 := eq_true q303
    go_wp2
    go_roundg k1
    case measure => have := HK1.out; omega
    case rel => exact ⟨(wrap64 (x6_1 + 1)), (by first | rfl | (simp; done) | (simp [*]; done)), H', ⟨by have := HK1.out; omega⟩, by repeat (first | exact Drawn0.refl _ | apply Drawn0.step)⟩
   rw [if_pos c5] at H
   have c5b0 : (((rd_T33 l0 x6_1).f0) == 5) = true := beq_iff_eq.mpr c5
   have c5b1 : (((rd_T33 l0 x6_1).f0) != 5) = false := bne_eq_false_iff_eq.mpr c5
   clear c5
   by_cases c6 : ((rd_T33 l0 x6_1).f2).toList = a1.toList
   rotate_left
   ·
    rw [if_neg c6] at H
    have c6b0 : (((rd_T33 l0 x6_1).f2).toList == a1.toList) = false := beq_eq_false_iff_ne.mpr c6
    have c6b1 : (((rd_T33 l0 x6_1).f2).toList != a1.toList) = true := bne_iff_ne.mpr c6
    have H' := aK H
    clear H
    have p303 : 0 ≤ (x6_1 : Int) := odT (by first | (with_reducible assumption) | assumption)
    have q303 : x6_1 < (l0.length : Int) := odT (by first | (with_reducible assumption) | assumption)
    obtain ⟨ad303, e303, hx303_0, hx303_1, hx303_2, hx303_3, hx303_4⟩ := at_T33 HR0.out x6_1 p303 q303
    cases e303
    replace p303 := eq_true p303
    replace q303 := eq_true q303
    have p304 : 0 ≤ (x6_1 : Int) := odT (by first | (with_reducible assumption) | assumption)
    have q304 : x6_1 < (l0.length : Int) := odT (by first | (with_reducible assumption) | assumption)
    obtain ⟨ad304, e304, hx304_0, hx304_1, hx304_2, hx304_3, hx304_4⟩ := at_T33 HR0.out x6_1 p304 q304
    obtain rfl : ad303 = ad304 := (by injection e304)
    replace p304 := eq_true p304
    replace q304 := eq_true q304
    go_wp2
    go_roundg k1
    case measure => have := HK1.out; omega
    case rel => exact ⟨(wrap64 (x6_1 + 1)), (by first | rfl | (simp; done) | (simp [*]; done)), H', ⟨by have := HK1.out; omega⟩, by repeat (first | exact Drawn0.refl _ | apply Drawn0.step)⟩
   rw [if_pos c6] at H
   have c6b0 : (((rd_T33 l0 x6_1).f2).toList == a1.toList) = true := beq_iff_eq.mpr c6
   have c6b1 : (((rd_T33 l0 x6_1).f2).toList != a1.toList) = false := bne_eq_false_iff_eq.mpr c6
   clear c6
   simp only [Option.some.injEq, Prod.mk.injEq] at H
   obtain ⟨rfl, rfl⟩ := H
   have p303 : 0 ≤ (x6_1 : Int) := odT (by first | (with_reducible assumption) | assumption)
   have q303 : x6_1 < (l0.length : Int) := odT (by first | (with_reducible assumption) | assumption)
   obtain ⟨ad303, e303, hx303_0, hx303_1, hx303_2, hx303_3, hx303_4⟩ := at_T33 HR0.out x6_1 p303 q303
   cases e303
   replace p303 := eq_true p303
   replace q303 := eq_true q303
   have p304 : 0 ≤ (x6_1 : Int) := odT (by first | (with_reducible assumption) | assumption)
   have q304 : x6_1 < (l0.length : Int) := odT (by first | (with_reducible assumption) | assumption)
   obtain ⟨ad304, e304, hx304_0, hx304_1, hx304_2, hx304_3, hx304_4⟩ := at_T33 HR0.out x6_1 p304 q304
   obtain rfl : ad303 = ad304 := (by injection e304)
   replace p304 := eq_true p304
   replace q304 := eq_true q304
   go_wp2
   go_ret2
   exact ⟨by first | rfl | (simp; done) | (simp [*]; done), by repeat (first | exact Drawn0.refl _ | apply Drawn0.step)⟩
def r10_Find.l0 : Nat → List (S33) → Int → ByteArray → Int → Option (Int × Bool)
 | 0, _, _, _, _ => none
 | k + 1, x0, x1, x2, x8 => if x8 < (x0.length : Int) then (if 0 ≤ x8 then (if ((rd_T33 x0 x8).f0) = x1 then (if ((rd_T33 x0 x8).f1).toList = x2.toList then (some (x8, true)) else (r10_Find.l0 k x0 x1 x2 (wrap64 (x8 + 1)))) else (r10_Find.l0 k x0 x1 x2 (wrap64 (x8 + 1)))) else (none)) else (some (0, false))
def r10_Find.f (k : Nat) (l0 : List (S33)) (a1 : Int) (a2 : ByteArray) : Option (Int × Bool) := r10_Find.l0 k l0 a1 a2 0
theorem r10_Find.calls (k : Nat) (A0 : Option Addr) (c0 : Nat) (l0 : List (S33)) (a1 : Int) (a2 : ByteArray) (r1 : Int) (r2 : Bool) (w : World) (hr0 : Kd.C k33 w A0 l0.length l0) (hc0 : l0.length ≤ c0) (h : r10_Find.f k l0 a1 a2 = some (r1, r2)) :
  Calls Try.prog 22 #[.slice A0 l0.length c0, .int .i64 a1, .string a2] w fun e w' => e = .returned (.tuple #[.int .i64 r1, .bool r2]) ∧ Drawn0 w w' := by
 have HR0 := aK hr0
 have HC0 := aK hc0
 clear hr0 hc0
 have H : (r10_Find.l0 k l0 a1 a2 0) = some (r1, r2) := h
 clear h
 have H' := aK H
 clear H
 go_enter Try.func22, Try.ntmps22
 go_wp2
 go_loopg [8] k (fun kq v8 w' => ∃ (x8_1 : Int), v8 = .int .i64 x8_1 ∧ Aside0 (r10_Find.l0 kq l0 a1 a2 x8_1 = some (r1, r2)) ∧ Aside0 (kq ≤ k) ∧ Drawn0 w w')
 case atStart => exact ⟨(0), (by first | rfl | (simp; done) | (simp [*]; done)), H', ⟨Nat.le_refl _⟩, by repeat (first | exact Drawn0.refl _ | apply Drawn0.step)⟩
 case round =>
  clear H'
  try clear c2
  try clear p2
  obtain ⟨x8_1, rfl, HA, HK1, ⟨m1, rfl⟩⟩ := hrel
  cases gk with
  | zero => exact absurd HA.out (by simp [r10_Find.l0])
  | succ k1 =>
   have H := HA.out
   clear HA
   simp only [r10_Find.l0] at H
   by_cases c4 : x8_1 < (l0.length : Int)
   rotate_left
   ·
    rw [if_neg c4] at H
    have c4b0 : decide (x8_1 < (l0.length : Int)) = false := decide_eq_false c4
    clear c4
    simp only [Option.some.injEq, Prod.mk.injEq] at H
    obtain ⟨rfl, rfl⟩ := H
    go_wp2
    go_ret2
    exact ⟨by first | rfl | (simp; done) | (simp [*]; done), by repeat (first | exact Drawn0.refl _ | apply Drawn0.step)⟩
   rw [if_pos c4] at H
   have c4b0 : decide (x8_1 < (l0.length : Int)) = true := decide_eq_true c4
   clear c4
   by_cases c5 : 0 ≤ x8_1
   rotate_left
   ·
    rw [if_neg c5] at H
    exact absurd H (by simp)
   rw [if_pos c5] at H
   have c5b0 : decide (0 ≤ x8_1) = true := decide_eq_true c5
   clear c5
   by_cases c6 : ((rd_T33 l0 x8_1).f0) = a1
   rotate_left
   ·
    rw [if_neg c6] at H
    have c6b0 : (((rd_T33 l0 x8_1).f0) == a1) = false := beq_eq_false_iff_ne.mpr c6
    have c6b1 : (((rd_T33 l0 x8_1).f0) != a1) = true := bne_iff_ne.mpr c6
    have H' := aK H
    clear H
    have p305 : 0 ≤ (x8_1 : Int) := odT (by first | (with_reducible assumption) | assumption)
    have q305 : x8_1 < (l0.length : Int) := odT (by first | (with_reducible assumption) | assumption)
    obtain ⟨ad305, e305, hx305_0, hx305_1, hx305_2, hx305_3, hx305_4⟩ := at_T33 HR0.out x8_1 p305 q305
    cases e305
    replace p305 := eq_true p305
    replace q305 := eq_true q305
    go_wp2
    go_roundg k1
    case measure => have := HK1.out; omega
    case rel => exact ⟨(wrap64 (x8_1 + 1)), (by first | rfl | (simp; done) | (simp [*]; done)), H', ⟨by have := HK1.out; omega⟩, by repeat (first | exact Drawn0.refl _ | apply Drawn0.step)⟩
   rw [if_pos c6] at H
   have c6b0 : (((rd_T33 l0 x8_1).f0) == a1) = true := beq_iff_eq.mpr c6
   have c6b1 : (((rd_T33 l0 x8_1).f0) != a1) = false := bne_eq_false_iff_eq.mpr c6
   clear c6
   by_cases c7 : ((rd_T33 l0 x8_1).f1).toList = a2.toList
   rotate_left
   ·
    rw [if_neg c7] at H
    have c7b0 : (((rd_T33 l0 x8_1).f1).toList == a2.toList) = false := beq_eq_false_iff_ne.mpr c7
    have c7b1 : (((rd_T33 l0 x8_1).f1).toList != a2.toList) = true := bne_iff_ne.mpr c7
    have H' := aK H
    clear H
    have p305 : 0 ≤ (x8_1 : Int) := odT (by first | (with_reducible assumption) | assumption)
    have q305 : x8_1 < (l0.length : Int) := odT (by first | (with_reducible assumption) | assumption)
    obtain ⟨ad305, e305, hx305_0, hx305_1, hx305_2, hx305_3, hx305_4⟩ := at_T33 HR0.out x8_1 p305 q305
    cases e305
    replace p305 := eq_true p305
    replace q305 := eq_true q305
    have p306 : 0 ≤ (x8_1 : Int) := odT (by first | (with_reducible assumption) | assumption)
    have q306 : x8_1 < (l0.length : Int) := odT (by first | (with_reducible assumption) | assumption)
    obtain ⟨ad306, e306, hx306_0, hx306_1, hx306_2, hx306_3, hx306_4⟩ := at_T33 HR0.out x8_1 p306 q306
    obtain rfl : ad305 = ad306 := (by injection e306)
    replace p306 := eq_true p306
    replace q306 := eq_true q306
    go_wp2
    go_roundg k1
    case measure => have := HK1.out; omega
    case rel => exact ⟨(wrap64 (x8_1 + 1)), (by first | rfl | (simp; done) | (simp [*]; done)), H', ⟨by have := HK1.out; omega⟩, by repeat (first | exact Drawn0.refl _ | apply Drawn0.step)⟩
   rw [if_pos c7] at H
   have c7b0 : (((rd_T33 l0 x8_1).f1).toList == a2.toList) = true := beq_iff_eq.mpr c7
   have c7b1 : (((rd_T33 l0 x8_1).f1).toList != a2.toList) = false := bne_eq_false_iff_eq.mpr c7
   clear c7
   simp only [Option.some.injEq, Prod.mk.injEq] at H
   obtain ⟨rfl, rfl⟩ := H
   have p305 : 0 ≤ (x8_1 : Int) := odT (by first | (with_reducible assumption) | assumption)
   have q305 : x8_1 < (l0.length : Int) := odT (by first | (with_reducible assumption) | assumption)
   obtain ⟨ad305, e305, hx305_0, hx305_1, hx305_2, hx305_3, hx305_4⟩ := at_T33 HR0.out x8_1 p305 q305
   cases e305
   replace p305 := eq_true p305
   replace q305 := eq_true q305
   have p306 : 0 ≤ (x8_1 : Int) := odT (by first | (with_reducible assumption) | assumption)
   have q306 : x8_1 < (l0.length : Int) := odT (by first | (with_reducible assumption) | assumption)
   obtain ⟨ad306, e306, hx306_0, hx306_1, hx306_2, hx306_3, hx306_4⟩ := at_T33 HR0.out x8_1 p306 q306
   obtain rfl : ad305 = ad306 := (by injection e306)
   replace p306 := eq_true p306
   replace q306 := eq_true q306
   go_wp2
   go_ret2
   exact ⟨by first | rfl | (simp; done) | (simp [*]; done), by repeat (first | exact Drawn0.refl _ | apply Drawn0.step)⟩
def r10_Sign.f (k : Nat) (l0 : List (S33)) (a1 : ByteArray) : Option (ByteArray) := (r10_Find.f k l0 8 a1).bind fun bt307 => (if bt307.2 = true then (if 0 ≤ bt307.1 then (if bt307.1 < (l0.length : Int) then (some ((rd_T33 l0 bt307.1).f2)) else (none)) else (none)) else (some (⟨#[]⟩ : ByteArray)))
theorem r10_Sign.calls (k : Nat) (A0 : Option Addr) (c0 : Nat) (l0 : List (S33)) (a1 : ByteArray) (r : ByteArray) (w : World) (hr0 : Kd.C k33 w A0 l0.length l0) (hc0 : l0.length ≤ c0) (h : r10_Sign.f k l0 a1 = some r) :
  Calls Try.prog 23 #[.slice A0 l0.length c0, .string a1] w fun e w' => e = .returned (.string r) ∧ Drawn0 w w' := by
 have HR0 := aK hr0
 have HC0 := aK hc0
 clear hr0 hc0
 have H : ((r10_Find.f k l0 8 a1).bind fun bt307 => (if bt307.2 = true then (if 0 ≤ bt307.1 then (if bt307.1 < (l0.length : Int) then (some ((rd_T33 l0 bt307.1).f2)) else (none)) else (none)) else (some (⟨#[]⟩ : ByteArray)))) = some r := h
 clear h
 replace H := oB H
 obtain ⟨⟨t307, t308⟩, A30, H⟩ := H
 try dsimp only at H
 have A3 := aK A30
 clear A30
 by_cases c4 : t308 = true
 rotate_left
 ·
  replace c4 := Bool.eq_false_iff.mpr c4
  subst c4
  have H1 : (some (⟨#[]⟩ : ByteArray)) = some r := by rw [if_neg (show ¬ (false = true) by decide)] at H; exact H
  clear H
  have H := H1
  clear H1
  obtain rfl := oI H
  go_enter Try.func23, Try.ntmps23
  go_wp2_with (first | ((with_reducible refine gate_callee (f := 22) rfl ?_); refine goesL_ (some 10) rfl rfl Try.func22 (by kernel_rfl) rfl #[.slice A0 l0.length c0, .int .i64 8, .string a1] rfl (by (try simp only [qM0, qM1, qM2]); first | done | rfl | (simp only [qD0, qD1]; rfl)) ?_; (with_reducible refine (r10_Find.calls k _ _ l0 8 a1 t307 false _ ?side1 ?side2 A3.out).mono ?_); (case side1 => repeat (first | exact HR0.out | (with_reducible refine Kd.C_alloc ?_ _) | (with_reducible refine Kd.C_drewN ?_ _) | (with_reducible refine Kd.C_drew ?_))); (case side2 => exact HC0.out); rintro e w' ⟨rfl, ⟨nd, rfl⟩⟩; refine ⟨_, rfl, ?_⟩))
  go_ret
  exact ⟨by first | rfl | (simp; done) | (simp [*]; done), by repeat (first | exact Drawn0.refl _ | apply Drawn0.step)⟩
 subst c4
 have H1 : (if 0 ≤ t307 then (if t307 < (l0.length : Int) then (some ((rd_T33 l0 t307).f2)) else (none)) else (none)) = some r := by rw [if_pos rfl] at H; exact H
 clear H
 have H := H1
 clear H1
 by_cases c5 : 0 ≤ t307
 rotate_left
 ·
  rw [if_neg c5] at H
  exact absurd H (by simp)
 rw [if_pos c5] at H
 have c5b0 : decide (0 ≤ t307) = true := decide_eq_true c5
 clear c5
 by_cases c6 : t307 < (l0.length : Int)
 rotate_left
 ·
  rw [if_neg c6] at H
  exact absurd H (by simp)
 rw [if_pos c6] at H
 have c6b0 : decide (t307 < (l0.length : Int)) = true := decide_eq_true c6
 clear c6
 obtain rfl := oI H
 go_enter Try.func23, Try.ntmps23
 go_wp2_with (first | ((with_reducible refine gate_callee (f := 22) rfl ?_); refine goesL_ (some 10) rfl rfl Try.func22 (by kernel_rfl) rfl #[.slice A0 l0.length c0, .int .i64 8, .string a1] rfl (by (try simp only [qM0, qM1, qM2]); first | done | rfl | (simp only [qD0, qD1]; rfl)) ?_; (with_reducible refine (r10_Find.calls k _ _ l0 8 a1 t307 true _ ?side1 ?side2 A3.out).mono ?_); (case side1 => repeat (first | exact HR0.out | (with_reducible refine Kd.C_alloc ?_ _) | (with_reducible refine Kd.C_drewN ?_ _) | (with_reducible refine Kd.C_drew ?_))); (case side2 => exact HC0.out); rintro e w' ⟨rfl, ⟨nd, rfl⟩⟩; refine ⟨_, rfl, ?_⟩; have p309 : 0 ≤ (t307 : Int) := odT (by first | (with_reducible assumption) | assumption); have q309 : t307 < (l0.length : Int) := odT (by first | (with_reducible assumption) | assumption); obtain ⟨ad309, e309, hx309_0, hx309_1, hx309_2, hx309_3, hx309_4⟩ := at_T33 HR0.out t307 p309 q309; cases e309; replace p309 := eq_true p309; replace q309 := eq_true q309))
 go_ret
 exact ⟨by first | rfl | (simp; done) | (simp [*]; done), by repeat (first | exact Drawn0.refl _ | apply Drawn0.step)⟩
def w10_long.l0 : Nat → List (S33) → Int → Option (Bool)
 | 0, _, _ => none
 | k + 1, x0, x3 => if x3 < (x0.length : Int) then (if 0 ≤ x3 then (if (((rd_T33 x0 x3).f1).size : Int) > 50 then (some true) else (if (((rd_T33 x0 x3).f2).size : Int) > 50 then (some true) else (w10_long.l0 k x0 (wrap64 (x3 + 1))))) else (none)) else (some false)
def w10_long.f (k : Nat) (l0 : List (S33)) : Option (Bool) := if (l0.length : Int) > 450 then (some true) else (w10_long.l0 k l0 0)
theorem w10_long.calls (k : Nat) (A0 : Option Addr) (c0 : Nat) (l0 : List (S33)) (r : Bool) (w : World) (hr0 : Kd.C k33 w A0 l0.length l0) (hc0 : l0.length ≤ c0) (h : w10_long.f k l0 = some r) :
  Calls Try.prog 9 #[.slice A0 l0.length c0] w fun e w' => e = .returned (.bool r) ∧ Drawn0 w w' := by
 have HR0 := aK hr0
 have HC0 := aK hc0
 clear hr0 hc0
 have H : (if (l0.length : Int) > 450 then (some true) else (w10_long.l0 k l0 0)) = some r := h
 clear h
 by_cases c2 : (l0.length : Int) > 450
 rotate_left
 ·
  rw [if_neg c2] at H
  have c2b0 : decide (450 < (l0.length : Int)) = false := decide_eq_false c2
  have c2b1 : decide (450 < l0.length) = false := decide_eq_false (by omega)
  clear c2
  have H' := aK H
  clear H
  go_enter Try.func9, Try.ntmps9
  go_wp2
  go_loopg [3] k (fun kq v3 w' => ∃ (x3_1 : Int), v3 = .int .i64 x3_1 ∧ Aside0 (w10_long.l0 kq l0 x3_1 = some r) ∧ Aside0 (kq ≤ k) ∧ Drawn0 w w')
  case atStart => exact ⟨(0), (by first | rfl | (simp; done) | (simp [*]; done)), H', ⟨Nat.le_refl _⟩, by repeat (first | exact Drawn0.refl _ | apply Drawn0.step)⟩
  case round =>
   clear H'
   try clear c2
   try clear c2b0
   try clear c2b1
   try clear p2
   obtain ⟨x3_1, rfl, HA, HK1, ⟨m1, rfl⟩⟩ := hrel
   cases gk with
   | zero => exact absurd HA.out (by simp [w10_long.l0])
   | succ k1 =>
    have H := HA.out
    clear HA
    simp only [w10_long.l0] at H
    by_cases c3 : x3_1 < (l0.length : Int)
    rotate_left
    ·
     rw [if_neg c3] at H
     have c3b0 : decide (x3_1 < (l0.length : Int)) = false := decide_eq_false c3
     clear c3
     obtain rfl := oI H
     go_wp2
     go_ret
     exact ⟨by first | rfl | (simp; done) | (simp [*]; done), by repeat (first | exact Drawn0.refl _ | apply Drawn0.step)⟩
    rw [if_pos c3] at H
    have c3b0 : decide (x3_1 < (l0.length : Int)) = true := decide_eq_true c3
    clear c3
    by_cases c4 : 0 ≤ x3_1
    rotate_left
    ·
     rw [if_neg c4] at H
     exact absurd H (by simp)
    rw [if_pos c4] at H
    have c4b0 : decide (0 ≤ x3_1) = true := decide_eq_true c4
    clear c4
    by_cases c5 : (((rd_T33 l0 x3_1).f1).size : Int) > 50
    rotate_left
    ·
     rw [if_neg c5] at H
     have c5b0 : decide (50 < (((rd_T33 l0 x3_1).f1).size : Int)) = false := decide_eq_false c5
     have c5b1 : decide (50 < ((rd_T33 l0 x3_1).f1).size) = false := decide_eq_false (by omega)
     clear c5
     by_cases c6 : (((rd_T33 l0 x3_1).f2).size : Int) > 50
     rotate_left
     ·
      rw [if_neg c6] at H
      have c6b0 : decide (50 < (((rd_T33 l0 x3_1).f2).size : Int)) = false := decide_eq_false c6
      have c6b1 : decide (50 < ((rd_T33 l0 x3_1).f2).size) = false := decide_eq_false (by omega)
      clear c6
      have H' := aK H
      clear H
      have p310 : 0 ≤ (x3_1 : Int) := odT (by first | (with_reducible assumption) | assumption)
      have q310 : x3_1 < (l0.length : Int) := odT (by first | (with_reducible assumption) | assumption)
      obtain ⟨ad310, e310, hx310_0, hx310_1, hx310_2, hx310_3, hx310_4⟩ := at_T33 HR0.out x3_1 p310 q310
      cases e310
      replace p310 := eq_true p310
      replace q310 := eq_true q310
      have p311 : 0 ≤ (x3_1 : Int) := odT (by first | (with_reducible assumption) | assumption)
      have q311 : x3_1 < (l0.length : Int) := odT (by first | (with_reducible assumption) | assumption)
      obtain ⟨ad311, e311, hx311_0, hx311_1, hx311_2, hx311_3, hx311_4⟩ := at_T33 HR0.out x3_1 p311 q311
      obtain rfl : ad310 = ad311 := (by injection e311)
      replace p311 := eq_true p311
      replace q311 := eq_true q311
      go_wp2
      go_roundg k1
      case measure => have := HK1.out; omega
      case rel => exact ⟨(wrap64 (x3_1 + 1)), (by first | rfl | (simp; done) | (simp [*]; done)), H', ⟨by have := HK1.out; omega⟩, by repeat (first | exact Drawn0.refl _ | apply Drawn0.step)⟩
     rw [if_pos c6] at H
     have c6b0 : decide (50 < (((rd_T33 l0 x3_1).f2).size : Int)) = true := decide_eq_true c6
     have c6b1 : decide (50 < ((rd_T33 l0 x3_1).f2).size) = true := decide_eq_true (by omega)
     clear c6
     obtain rfl := oI H
     have p310 : 0 ≤ (x3_1 : Int) := odT (by first | (with_reducible assumption) | assumption)
     have q310 : x3_1 < (l0.length : Int) := odT (by first | (with_reducible assumption) | assumption)
     obtain ⟨ad310, e310, hx310_0, hx310_1, hx310_2, hx310_3, hx310_4⟩ := at_T33 HR0.out x3_1 p310 q310
     cases e310
     replace p310 := eq_true p310
     replace q310 := eq_true q310
     have p311 : 0 ≤ (x3_1 : Int) := odT (by first | (with_reducible assumption) | assumption)
     have q311 : x3_1 < (l0.length : Int) := odT (by first | (with_reducible assumption) | assumption)
     obtain ⟨ad311, e311, hx311_0, hx311_1, hx311_2, hx311_3, hx311_4⟩ := at_T33 HR0.out x3_1 p311 q311
     obtain rfl : ad310 = ad311 := (by injection e311)
     replace p311 := eq_true p311
     replace q311 := eq_true q311
     go_wp2
     go_ret
     exact ⟨by first | rfl | (simp; done) | (simp [*]; done), by repeat (first | exact Drawn0.refl _ | apply Drawn0.step)⟩
    rw [if_pos c5] at H
    have c5b0 : decide (50 < (((rd_T33 l0 x3_1).f1).size : Int)) = true := decide_eq_true c5
    have c5b1 : decide (50 < ((rd_T33 l0 x3_1).f1).size) = true := decide_eq_true (by omega)
    clear c5
    obtain rfl := oI H
    have p310 : 0 ≤ (x3_1 : Int) := odT (by first | (with_reducible assumption) | assumption)
    have q310 : x3_1 < (l0.length : Int) := odT (by first | (with_reducible assumption) | assumption)
    obtain ⟨ad310, e310, hx310_0, hx310_1, hx310_2, hx310_3, hx310_4⟩ := at_T33 HR0.out x3_1 p310 q310
    cases e310
    replace p310 := eq_true p310
    replace q310 := eq_true q310
    go_wp2
    go_ret
    exact ⟨by first | rfl | (simp; done) | (simp [*]; done), by repeat (first | exact Drawn0.refl _ | apply Drawn0.step)⟩
 rw [if_pos c2] at H
 have c2b0 : decide (450 < (l0.length : Int)) = true := decide_eq_true c2
 have c2b1 : decide (450 < l0.length) = true := decide_eq_true (by omega)
 clear c2
 obtain rfl := oI H
 go_enter Try.func9, Try.ntmps9
 go_wp2
 go_ret
 exact ⟨by first | rfl | (simp; done) | (simp [*]; done), by repeat (first | exact Drawn0.refl _ | apply Drawn0.step)⟩
end Go.Proofs.Ytbpbniemjjhecaa.PChk
