import Derived.Test.YtbpbniemjjhecaaZPChk0
import Derived.Test.YtbpbniemjjhecaaZPChk2
namespace Go.Proofs.Ytbpbniemjjhecaa.PChk
open Go.RowKit Go.Proofs.Ytbpbniemjjhecaa.G Go.Proofs.YtbpbniemjjhecaaW.PrintWords Go.Proofs.YtbpbniemjjhecaaW.PrintLast Go.Proofs.YtbpbniemjjhecaaW.PrintMore
attribute [local go_sem] max2_int min2_int max_two min_two max_three min_three max_four min_four
set_option linter.unusedVariables false
set_option linter.unusedSimpArgs false
set_option maxHeartbeats 8000000
set_option maxRecDepth 100000
def r9_has.l0 : Nat → List (S33) → Int → ByteArray → Int → Option (Bool)
 | 0, _, _, _, _ => none
 | k + 1, x0, x1, x2, x7 => if x7 < (x0.length : Int) then (if 0 ≤ x7 then (if ((rd_T33 x0 x7).f0) = x1 then (if ((rd_T33 x0 x7).f1).toList = x2.toList then (some true) else (r9_has.l0 k x0 x1 x2 (wrap64 (x7 + 1)))) else (r9_has.l0 k x0 x1 x2 (wrap64 (x7 + 1)))) else (none)) else (some false)
def r9_has.f (k : Nat) (l0 : List (S33)) (a1 : Int) (a2 : ByteArray) : Option (Bool) := r9_has.l0 k l0 a1 a2 0
theorem r9_has.calls (k : Nat) (A0 : Option Addr) (c0 : Nat) (l0 : List (S33)) (a1 : Int) (a2 : ByteArray) (r : Bool) (w : World) (hr0 : Kd.C k33 w A0 l0.length l0) (hc0 : l0.length ≤ c0) (h : r9_has.f k l0 a1 a2 = some r) :
  Calls Try.prog 71 #[.slice A0 l0.length c0, .int .i64 a1, .string a2] w fun e w' => e = .returned (.bool r) ∧ Drawn0 w w' := by
 have HR0 := aK hr0
 have HC0 := aK hc0
 clear hr0 hc0
 have H : (r9_has.l0 k l0 a1 a2 0) = some r := h
 clear h
 have H' := aK H
 clear H
 go_enter Try.func71, Try.ntmps71
 go_wp2
 go_loopg [7] k (fun kq v7 w' => ∃ (x7_1 : Int), v7 = .int .i64 x7_1 ∧ Aside0 (r9_has.l0 kq l0 a1 a2 x7_1 = some r) ∧ Aside0 (kq ≤ k) ∧ Drawn0 w w')
 case atStart => exact ⟨(0), (by first | rfl | (simp; done) | (simp [*]; done)), H', ⟨Nat.le_refl _⟩, by repeat (first | exact Drawn0.refl _ | apply Drawn0.step)⟩
 case round =>
  clear H'
  try clear p2
  obtain ⟨x7_1, rfl, HA, HK1, ⟨m1, rfl⟩⟩ := hrel
  cases gk with
  | zero => exact absurd HA.out (by simp [r9_has.l0])
  | succ k1 =>
   have H := HA.out
   clear HA
   simp only [r9_has.l0] at H
   by_cases c4 : x7_1 < (l0.length : Int)
   rotate_left
   ·
    rw [if_neg c4] at H
    have c4b0 : decide (x7_1 < (l0.length : Int)) = false := decide_eq_false c4
    clear c4
    obtain rfl := oI H
    go_wp2
    go_ret
    exact ⟨by first | rfl | (simp; done) | (simp [*]; done), by repeat (first | exact Drawn0.refl _ | apply Drawn0.step)⟩
   rw [if_pos c4] at H
   have c4b0 : decide (x7_1 < (l0.length : Int)) = true := decide_eq_true c4
   clear c4
   by_cases c5 : 0 ≤ x7_1
   rotate_left
   ·
    rw [if_neg c5] at H
    exact absurd H (by simp)
   rw [if_pos c5] at H
   have c5b0 : decide (0 ≤ x7_1) = true := decide_eq_true c5
   clear c5
   by_cases c6 : ((rd_T33 l0 x7_1).f0) = a1
   rotate_left
   ·
    rw [if_neg c6] at H
    have c6b0 : (((rd_T33 l0 x7_1).f0) == a1) = false := beq_eq_false_iff_ne.mpr c6
    have c6b1 : (((rd_T33 l0 x7_1).f0) != a1) = true := bne_iff_ne.mpr c6
    have H' := aK H
    clear H
    have p271 : 0 ≤ (x7_1 : Int) := odT (by first | (with_reducible assumption) | assumption)
    have q271 : x7_1 < (l0.length : Int) := odT (by first | (with_reducible assumption) | assumption)
    obtain ⟨ad271, e271, hx271_0, hx271_1, hx271_2, hx271_3, hx271_4⟩ := at_T33 HR0.out x7_1 p271 q271
    cases e271
    replace p271 := eq_true p271
    replace q271 := eq_true q271
    go_wp2
    go_roundg k1
    case measure => have := HK1.out; omega
    case rel => exact ⟨(wrap64 (x7_1 + 1)), (by first | rfl | (simp; done) | (simp [*]; done)), H', ⟨by have := HK1.out; omega⟩, by repeat (first | exact Drawn0.refl _ | apply Drawn0.step)⟩
   rw [if_pos c6] at H
   have c6b0 : (((rd_T33 l0 x7_1).f0) == a1) = true := beq_iff_eq.mpr c6
   have c6b1 : (((rd_T33 l0 x7_1).f0) != a1) = false := bne_eq_false_iff_eq.mpr c6
   clear c6
   by_cases c7 : ((rd_T33 l0 x7_1).f1).toList = a2.toList
   rotate_left
   ·
    rw [if_neg c7] at H
    have c7b0 : (((rd_T33 l0 x7_1).f1).toList == a2.toList) = false := beq_eq_false_iff_ne.mpr c7
    have c7b1 : (((rd_T33 l0 x7_1).f1).toList != a2.toList) = true := bne_iff_ne.mpr c7
    have H' := aK H
    clear H
    have p271 : 0 ≤ (x7_1 : Int) := odT (by first | (with_reducible assumption) | assumption)
    have q271 : x7_1 < (l0.length : Int) := odT (by first | (with_reducible assumption) | assumption)
    obtain ⟨ad271, e271, hx271_0, hx271_1, hx271_2, hx271_3, hx271_4⟩ := at_T33 HR0.out x7_1 p271 q271
    cases e271
    replace p271 := eq_true p271
    replace q271 := eq_true q271
    have p272 : 0 ≤ (x7_1 : Int) := odT (by first | (with_reducible assumption) | assumption)
    have q272 : x7_1 < (l0.length : Int) := odT (by first | (with_reducible assumption) | assumption)
    obtain ⟨ad272, e272, hx272_0, hx272_1, hx272_2, hx272_3, hx272_4⟩ := at_T33 HR0.out x7_1 p272 q272
    obtain rfl : ad271 = ad272 := (by injection e272)
    replace p272 := eq_true p272
    replace q272 := eq_true q272
    go_wp2
    go_roundg k1
    case measure => have := HK1.out; omega
    case rel => exact ⟨(wrap64 (x7_1 + 1)), (by first | rfl | (simp; done) | (simp [*]; done)), H', ⟨by have := HK1.out; omega⟩, by repeat (first | exact Drawn0.refl _ | apply Drawn0.step)⟩
   rw [if_pos c7] at H
   have c7b0 : (((rd_T33 l0 x7_1).f1).toList == a2.toList) = true := beq_iff_eq.mpr c7
   have c7b1 : (((rd_T33 l0 x7_1).f1).toList != a2.toList) = false := bne_eq_false_iff_eq.mpr c7
   clear c7
   obtain rfl := oI H
   have p271 : 0 ≤ (x7_1 : Int) := odT (by first | (with_reducible assumption) | assumption)
   have q271 : x7_1 < (l0.length : Int) := odT (by first | (with_reducible assumption) | assumption)
   obtain ⟨ad271, e271, hx271_0, hx271_1, hx271_2, hx271_3, hx271_4⟩ := at_T33 HR0.out x7_1 p271 q271
   cases e271
   replace p271 := eq_true p271
   replace q271 := eq_true q271
   have p272 : 0 ≤ (x7_1 : Int) := odT (by first | (with_reducible assumption) | assumption)
   have q272 : x7_1 < (l0.length : Int) := odT (by first | (with_reducible assumption) | assumption)
   obtain ⟨ad272, e272, hx272_0, hx272_1, hx272_2, hx272_3, hx272_4⟩ := at_T33 HR0.out x7_1 p272 q272
   obtain rfl : ad271 = ad272 := (by injection e272)
   replace p272 := eq_true p272
   replace q272 := eq_true q272
   go_wp2
   go_ret
   exact ⟨by first | rfl | (simp; done) | (simp [*]; done), by repeat (first | exact Drawn0.refl _ | apply Drawn0.step)⟩
mutual
def r9_Missing.l0 : Nat → List (S33) → Int → Option (ByteArray)
 | 0, _, _ => none
 | k + 1, x0, x3 => if x3 < 26 then ((some (([(wrap64 (97 + x3)) % 256] : List Int) : List Int)).bind fun y273 => ((r9_has.f k x0 1 (strOfNums y273)).bind fun t276 => (if t276 = true then (r9_Missing.l0 k x0 (wrap64 (x3 + 1))) else (some (strOfNums y273))))) else ((r1_Marks.f).bind fun t277 => (r9_Missing.l1 k x0 t277 0))
def r9_Missing.l1 : Nat → List (S33) → ByteArray → Int → Option (ByteArray)
 | 0, _, _, _ => none
 | k + 1, x0, x5, x6 => if x6 < (x5.size : Int) then (if 0 ≤ x6 then (if x6 ≤ (wrap64 (x6 + 1)) then (if (wrap64 (x6 + 1)) ≤ (x5.size : Int) then ((r9_has.f k x0 6 (x5.extract (x6 : Int).toNat ((wrap64 (x6 + 1)) : Int).toNat)).bind fun t278 => (if t278 = true then (r9_Missing.l1 k x0 x5 (wrap64 (x6 + 1))) else (some (x5.extract (x6 : Int).toNat ((wrap64 (x6 + 1)) : Int).toNat)))) else (none)) else (none)) else (none)) else (r9_Missing.l2 k x0 0)
def r9_Missing.l2 : Nat → List (S33) → Int → Option (ByteArray)
 | 0, _, _ => none
 | k + 1, x0, x7 => if x7 < 10 then ((some (([(wrap64 (48 + x7)) % 256] : List Int) : List Int)).bind fun y279 => ((r9_has.f k x0 7 (strOfNums y279)).bind fun t282 => (if t282 = true then (r9_Missing.l2 k x0 (wrap64 (x7 + 1))) else (some (strOfNums y279))))) else ((r8_Names.f).bind fun t283 => (r9_Missing.l3 k x0 t283 0))
def r9_Missing.l3 : Nat → List (S33) → List ByteArray → Int → Option (ByteArray)
 | 0, _, _, _ => none
 | k + 1, x0, x9, x10 => if x10 < (x9.length : Int) then (if 0 ≤ x10 then ((r9_has.f k x0 8 (rdOf ByteArray.empty x9 x10)).bind fun t287 => (if t287 = true then (r9_Missing.l3 k x0 x9 (wrap64 (x10 + 1))) else (some (rdOf ByteArray.empty x9 x10)))) else (none)) else (some (⟨#[]⟩ : ByteArray))
end
def r9_Missing.f (k : Nat) (l0 : List (S33)) : Option (ByteArray) := r9_Missing.l0 k l0 0
theorem r9_Missing.calls (k : Nat) (A0 : Option Addr) (c0 : Nat) (l0 : List (S33)) (r : ByteArray) (w : World) (hr0 : Kd.C k33 w A0 l0.length l0) (hc0 : l0.length ≤ c0) (h : r9_Missing.f k l0 = some r) :
  Calls Try.prog 48 #[.slice A0 l0.length c0] w fun e w' => e = .returned (.string r) ∧ Below w.heap.size w w' := by
 have HR0 := aK hr0
 have HC0 := aK hc0
 clear hr0 hc0
 have HB := aK (Below.refl w.heap.size w)
 have H : (r9_Missing.l0 k l0 0) = some r := h
 clear h
 have H' := aK H
 clear H
 go_enter Try.func48, Try.ntmps48
 go_wp2
 go_loopg [3] k (fun kq v3 w' => ∃ (x3_1 : Int), v3 = .int .i64 x3_1 ∧ Aside0 (r9_Missing.l0 kq l0 x3_1 = some r) ∧ Aside0 (kq ≤ k) ∧ Aside0 (Below w.heap.size w w'))
 case atStart => exact ⟨(0), (by first | rfl | (simp; done) | (simp [*]; done)), H', ⟨Nat.le_refl _⟩, ⟨by repeat (first | (with_reducible first | exact HB.out | apply bAl | apply pbD | apply bD1) | exact HB.out)⟩⟩
 case round =>
  clear H'
  obtain ⟨x3_1, rfl, HA, HK1, HB⟩ := hrel
  cases gk with
  | zero => exact absurd HA.out (by simp [r9_Missing.l0])
  | succ k1 =>
   have H := HA.out
   clear HA
   simp only [r9_Missing.l0] at H
   by_cases c2 : x3_1 < 26
   rotate_left
   ·
    rw [if_neg c2] at H
    have c2b0 : decide (x3_1 < 26) = false := decide_eq_false c2
    clear c2
    replace H := oB H
    obtain ⟨t277, A110, H⟩ := H
    replace H : (r9_Missing.l1 k1 l0 t277 0) = some r := H
    have A11 := aK A110
    clear A110
    have H' := aK H
    clear H
    go_wp2_with (first | ((with_reducible refine gate_callee (f := 72) rfl ?_); refine goesL_ (some 25) rfl rfl Try.func72 (by kernel_rfl) rfl #[] rfl (by (try simp only [qM0, qM1, qM2]); first | done | rfl | (simp only [qD0, qD1]; rfl)) ?_; (with_reducible refine (r1_Marks.calls  t277 _ A11.out).mono ?_); rintro e w' ⟨rfl, ⟨nd, rfl⟩⟩; refine ⟨_, rfl, ?_⟩))
    go_loopg [6] k1 (fun kq v6 w' => ∃ (x6_2 : Int), v6 = .int .i64 x6_2 ∧ Aside0 (r9_Missing.l1 kq l0 t277 x6_2 = some r) ∧ Aside0 (kq ≤ k1) ∧ Aside0 (Below w.heap.size w w'))
    case atStart => exact ⟨(0), (by first | rfl | (simp; done) | (simp [*]; done)), H', ⟨Nat.le_refl _⟩, ⟨by repeat (first | (with_reducible first | exact HB.out | apply bAl | apply pbD | apply bD1) | exact HB.out)⟩⟩
    case round =>
     clear H'
     try clear hcv1
     try clear c2
     try clear c2b0
     try clear p2
     try clear c4
     try clear p6
     try clear c7
     try clear hcv7
     try clear hcv10
     obtain ⟨x6_2, rfl, HA, HK2, HB⟩ := hrel
     cases gk with
     | zero => exact absurd HA.out (by simp [r9_Missing.l1])
     | succ k2 =>
      have H := HA.out
      clear HA
      simp only [r9_Missing.l1] at H
      by_cases c12 : x6_2 < (t277.size : Int)
      rotate_left
      ·
       rw [if_neg c12] at H
       have c12b0 : decide (x6_2 < (t277.size : Int)) = false := decide_eq_false c12
       clear c12
       have H' := aK H
       clear H
       go_wp2
       go_loopg [7] k2 (fun kq v7 w' => ∃ (x7_3 : Int), v7 = .int .i64 x7_3 ∧ Aside0 (r9_Missing.l2 kq l0 x7_3 = some r) ∧ Aside0 (kq ≤ k2) ∧ Aside0 (Below w.heap.size w w'))
       case atStart => exact ⟨(0), (by first | rfl | (simp; done) | (simp [*]; done)), H', ⟨Nat.le_refl _⟩, ⟨by repeat (first | (with_reducible first | exact HB.out | apply bAl | apply pbD | apply bD1) | exact HB.out)⟩⟩
       case round =>
        clear H'
        try clear c1
        try clear hcv1
        try clear c2
        try clear c2b0
        try clear p2
        try clear c4
        try clear p6
        try clear c7
        try clear hcv7
        try clear hcv10
        try clear c12
        try clear c12b0
        try clear c13
        try clear c13b0
        try clear c13b1
        try clear c14
        try clear c14b0
        try clear c14b1
        try clear c15
        try clear c15b0
        try clear c15b1
        try clear c17
        try clear c18
        try clear c18b0
        try clear c19
        try clear c19b0
        try clear c20
        try clear c20b0
        try clear p2
        try clear p6
        obtain ⟨x7_3, rfl, HA, HK3, HB⟩ := hrel
        cases gk with
        | zero => exact absurd HA.out (by simp [r9_Missing.l2])
        | succ k3 =>
         have H := HA.out
         clear HA
         simp only [r9_Missing.l2] at H
         by_cases c21 : x7_3 < 10
         rotate_left
         ·
          rw [if_neg c21] at H
          have c21b0 : decide (x7_3 < 10) = false := decide_eq_false c21
          clear c21
          replace H := oB H
          obtain ⟨t283, A300, H⟩ := H
          replace H : (r9_Missing.l3 k3 l0 t283 0) = some r := H
          have A30 := aK A300
          clear A300
          have H' := aK H
          clear H
          go_wp2_with (first | ((with_reducible refine gate_callee (f := 73) rfl ?_); refine goesL_ (some 59) rfl rfl Try.func73 (by kernel_rfl) rfl #[] rfl (by (try simp only [qM0, qM1, qM2]); first | done | rfl | (simp only [qD0, qD1]; rfl)) ?_; (with_reducible refine (r8_Names.calls  t283 _ A30.out).mono ?_); rintro e w31 ⟨v284, rfl, ho0, hb⟩; refine ⟨_, rfl, ?_⟩; have n0_ := aK (Kd.R_lower ho0 (bSz (by repeat (first | (with_reducible first | exact HB.out | apply bAl | apply pbD | apply bD1) | exact HB.out)))); have n1_ := aK (bSp (by repeat (first | (with_reducible first | exact HB.out | apply bAl | apply pbD | apply bD1) | exact HB.out)) hb); clear HB; have HO285 := n0_; have HB := n1_; clear n0_ n1_; (try clear hb); (try clear hb2); (try clear hk); (try clear hi); (try clear ho0)))
          go_loopg [10] k3 (fun kq v10 w' => ∃ (x10_4 : Int), v10 = .int .i64 x10_4 ∧ Aside0 (r9_Missing.l3 kq l0 t283 x10_4 = some r) ∧ Aside0 (kq ≤ k3) ∧ Aside0 (Kd.R Kd.string 9 w' w.heap.size (fun _ => True) v284 t283) ∧ Aside0 (Below w.heap.size w w'))
          case atStart => exact ⟨(0), (by first | rfl | (simp; done) | (simp [*]; done)), H', ⟨Nat.le_refl _⟩, ⟨by (with_reducible repeat (first | apply Kd.R_alloc | apply Kd.R_drewN | apply Kd.R_drew)); exact HO285.out⟩, ⟨by repeat (first | (with_reducible first | exact HB.out | apply bAl | apply pbD | apply bD1) | exact HB.out)⟩⟩
          case round =>
           clear H'
           try clear c1
           try clear hcv1
           try clear c2
           try clear c2b0
           try clear p2
           try clear hcv2
           try clear c4
           try clear p6
           try clear c7
           try clear hcv7
           try clear hcv10
           try clear c12
           try clear c12b0
           try clear c13
           try clear c13b0
           try clear c13b1
           try clear c14
           try clear c14b0
           try clear c14b1
           try clear c15
           try clear c15b0
           try clear c15b1
           try clear c17
           try clear c18
           try clear c18b0
           try clear c19
           try clear c19b0
           try clear c20
           try clear c20b0
           try clear c21
           try clear c21b0
           try clear c23
           try clear hcv26
           try clear hcv29
           try clear p2
           try clear p6
           obtain ⟨x10_4, rfl, HA, HK4, HO_9, HB⟩ := hrel
           cases gk with
           | zero => exact absurd HA.out (by simp [r9_Missing.l3])
           | succ k4 =>
            have H := HA.out
            clear HA
            simp only [r9_Missing.l3] at H
            by_cases c32 : x10_4 < (t283.length : Int)
            rotate_left
            ·
             rw [if_neg c32] at H
             have c32b0 : decide (x10_4 < (t283.length : Int)) = false := decide_eq_false c32
             clear c32
             obtain rfl := oI H
             obtain ⟨Ao38, co38, eo38⟩ := Kd.R_slice HO_9.out
             subst eo38
             go_wp2
             go_ret
             exact ⟨by first | rfl | (simp [eWn, eWs] <;> rfl) | (simp [*, eWn, eWs] <;> rfl), by repeat (first | (with_reducible first | exact HB.out | apply bAl | apply pbD | apply bD1) | exact HB.out)⟩
            rw [if_pos c32] at H
            have c32b0 : decide (x10_4 < (t283.length : Int)) = true := decide_eq_true c32
            clear c32
            by_cases c33 : 0 ≤ x10_4
            rotate_left
            ·
             rw [if_neg c33] at H
             exact absurd H (by simp)
            rw [if_pos c33] at H
            have c33b0 : decide (0 ≤ x10_4) = true := decide_eq_true c33
            clear c33
            replace H := oB H
            obtain ⟨t287, A340, H⟩ := H
            try dsimp only at H
            have A34 := aK A340
            clear A340
            by_cases c35 : t287 = true
            rotate_left
            ·
             replace c35 := Bool.eq_false_iff.mpr c35
             subst c35
             have H1 : (some (rdOf ByteArray.empty t283 x10_4)) = some r := by rw [if_neg (show ¬ (false = true) by decide)] at H; exact H
             clear H
             have H := H1
             clear H1
             obtain rfl := oI H
             obtain ⟨Ao37, co37, eo37⟩ := Kd.R_slice HO_9.out
             subst eo37
             have p286 : 0 ≤ (x10_4 : Int) := odT (by first | (with_reducible assumption) | assumption)
             have q286 : x10_4 < (t283.length : Int) := odT (by first | (with_reducible assumption) | assumption)
             obtain ⟨ad286, e286, hx286_0⟩ := Kd.at_string (Kd.R_reads' HO_9.out).2.2 x10_4 p286 q286
             cases e286
             replace p286 := eq_true p286
             replace q286 := eq_true q286
             go_wp2_with (first | ((with_reducible refine gate_callee (f := 71) rfl ?_); refine goesL_ (some 71) rfl rfl Try.func71 (by kernel_rfl) rfl #[.slice A0 l0.length c0, .int .i64 8, .string (rdOf ByteArray.empty t283 x10_4)] rfl (by (try simp only [qM0, qM1, qM2]); first | done | rfl | (simp only [qD0, qD1]; rfl)) ?_; (with_reducible refine (r9_has.calls k4 _ _ l0 8 (rdOf ByteArray.empty t283 x10_4) false _ ?side1 ?side2 A34.out).mono ?_); (case side1 => repeat (first | exact (Kd.C_below HR0.out HB.out) | (with_reducible refine Kd.C_alloc ?_ _) | (with_reducible refine Kd.C_drewN ?_ _) | (with_reducible refine Kd.C_drew ?_))); (case side2 => exact HC0.out); rintro e w' ⟨rfl, ⟨nd, rfl⟩⟩; refine ⟨_, rfl, ?_⟩; have p288 : 0 ≤ (x10_4 : Int) := odT (by first | (with_reducible assumption) | assumption); have q288 : x10_4 < (t283.length : Int) := odT (by first | (with_reducible assumption) | assumption); obtain ⟨ad288, e288, hx288_0⟩ := Kd.at_string (Kd.R_reads' HO_9.out).2.2 x10_4 p288 q288; obtain rfl : ad286 = ad288 := (by injection e288); replace p288 := eq_true p288; replace q288 := eq_true q288))
             go_ret
             exact ⟨by first | rfl | (simp [eWn, eWs] <;> rfl) | (simp [*, eWn, eWs] <;> rfl), by repeat (first | (with_reducible first | exact HB.out | apply bAl | apply pbD | apply bD1) | exact HB.out)⟩
            subst c35
            have H1 : (r9_Missing.l3 k4 l0 t283 (wrap64 (x10_4 + 1))) = some r := by rw [if_pos rfl] at H; exact H
            clear H
            have H := H1
            clear H1
            have H' := aK H
            clear H
            obtain ⟨Ao36, co36, eo36⟩ := Kd.R_slice HO_9.out
            subst eo36
            have p286 : 0 ≤ (x10_4 : Int) := odT (by first | (with_reducible assumption) | assumption)
            have q286 : x10_4 < (t283.length : Int) := odT (by first | (with_reducible assumption) | assumption)
            obtain ⟨ad286, e286, hx286_0⟩ := Kd.at_string (Kd.R_reads' HO_9.out).2.2 x10_4 p286 q286
            cases e286
            replace p286 := eq_true p286
            replace q286 := eq_true q286
            go_wp2_with (first | ((with_reducible refine gate_callee (f := 71) rfl ?_); refine goesL_ (some 71) rfl rfl Try.func71 (by kernel_rfl) rfl #[.slice A0 l0.length c0, .int .i64 8, .string (rdOf ByteArray.empty t283 x10_4)] rfl (by (try simp only [qM0, qM1, qM2]); first | done | rfl | (simp only [qD0, qD1]; rfl)) ?_; (with_reducible refine (r9_has.calls k4 _ _ l0 8 (rdOf ByteArray.empty t283 x10_4) true _ ?side1 ?side2 A34.out).mono ?_); (case side1 => repeat (first | exact (Kd.C_below HR0.out HB.out) | (with_reducible refine Kd.C_alloc ?_ _) | (with_reducible refine Kd.C_drewN ?_ _) | (with_reducible refine Kd.C_drew ?_))); (case side2 => exact HC0.out); rintro e w' ⟨rfl, ⟨nd, rfl⟩⟩; refine ⟨_, rfl, ?_⟩))
            go_roundg k4
            case measure => have := HK1.out; have := HK2.out; have := HK3.out; have := HK4.out; omega
            case rel => exact ⟨(wrap64 (x10_4 + 1)), (by first | rfl | (simp; done) | (simp [*]; done)), H', ⟨by have := HK1.out; have := HK2.out; have := HK3.out; have := HK4.out; omega⟩, ⟨by (with_reducible repeat (first | apply Kd.R_alloc | apply Kd.R_drewN | apply Kd.R_drew)); exact HO_9.out⟩, ⟨by repeat (first | (with_reducible first | exact HB.out | apply bAl | apply pbD | apply bD1) | exact HB.out)⟩⟩
         rw [if_pos c21] at H
         have c21b0 : decide (x7_3 < 10) = true := decide_eq_true c21
         clear c21
         obtain ⟨y279, hy279⟩ : ∃ y_ : List Int, y_ = (([(wrap64 (48 + x7_3)) % 256] : List Int)) := ⟨_, rfl⟩
         replace H : ((r9_has.f k3 l0 7 (strOfNums y279)).bind fun t282 => (if t282 = true then (r9_Missing.l2 k3 l0 (wrap64 (x7_3 + 1))) else (some (strOfNums y279)))) = some r := by first | (rw [hy279]; with_reducible exact H) | (have H2_ := (Option.bind_some _ _).symm.trans H; rw [hy279]; with_reducible exact H2_) | (have H2_ := (Option.bind_some _ _).symm.trans H; with_reducible exact H2_) | with_reducible exact H | (rw [hy279]; exact H) | exact H
         have Ny279 := aK hy279
         clear hy279
         replace H := oB H
         obtain ⟨t282, A220, H⟩ := H
         try dsimp only at H
         have A22 := aK A220
         clear A220
         by_cases c23 : t282 = true
         rotate_left
         ·
          replace c23 := Bool.eq_false_iff.mpr c23
          subst c23
          have H1 : (some (strOfNums y279)) = some r := by rw [if_neg (show ¬ (false = true) by decide)] at H; exact H
          clear H
          have H := H1
          clear H1
          obtain rfl := oI H
          go_wp2_with (first | ((with_reducible refine gate_dst (N := 52) rfl ?_); refine Kd.R_lit (Kd.int .u8) _ 5 ?hg (N := 52) ?hd (xs := ([(wrap64 (48 + x7_3)) % 256] : List Int)) (inner := [.int .u8 ((wrap64 (48 + x7_3)) % 256)]) (ok := fun _ => True) (okp := fun _ => True) ?hr ?hp (fun _ hk => hk) trivial (Below.refl _ _) (Nat.le_refl _) (by simp) ?_; (case hd => rfl); (case hg => rfl); (case hr => first | (go_simp; done) | (go_simp; rfl)); (case hp => exact (Reps.one (show Kd.M (Kd.int .u8) _ _ _ ((wrap64 (48 + x7_3)) % 256) [.int .u8 ((wrap64 (48 + x7_3)) % 256)] from rfl) (Reps.none _ _))); intro v280 w27 ho28 hb hg_ hnew_; clear hg_ hnew_; (first | rw [← Ny279.out] at ho28 | (simp only [Int.reduceToNat] at ho28; rw [← Ny279.out] at ho28)); have n0_ := aK (Kd.R_lower ho28 (bSz (by repeat (first | (with_reducible first | exact HB.out | apply bAl | apply pbD | apply bD1) | exact HB.out)))); have n1_ := aK (bSp (by repeat (first | (with_reducible first | exact HB.out | apply bAl | apply pbD | apply bD1) | exact HB.out)) hb); clear HB; have HO281 := n0_; have HB := n1_; clear n0_ n1_; clear hb ho28; have hcv29 := own_string (P := Try.prog) Try.underlying23 Try.underlying5 Try.underlying9 (Kd.own_of_R HO281.out)) | ((with_reducible refine gate_callee (f := 71) rfl ?_); refine goesL_ (some 56) rfl rfl Try.func71 (by kernel_rfl) rfl #[.slice A0 l0.length c0, .int .i64 7, .string (strOfNums y279)] rfl (by (try simp only [qM0, qM1, qM2]); first | done | rfl | (simp only [qD0, qD1]; rfl)) ?_; (with_reducible refine (r9_has.calls k3 _ _ l0 7 (strOfNums y279) false _ ?side1 ?side2 A22.out).mono ?_); (case side1 => repeat (first | exact (Kd.C_below HR0.out HB.out) | (with_reducible refine Kd.C_alloc ?_ _) | (with_reducible refine Kd.C_drewN ?_ _) | (with_reducible refine Kd.C_drew ?_))); (case side2 => exact HC0.out); rintro e w' ⟨rfl, ⟨nd, rfl⟩⟩; refine ⟨_, rfl, ?_⟩))
          go_ret
          exact ⟨by first | rfl | (simp [eWn, eWs] <;> rfl) | (simp [*, eWn, eWs] <;> rfl), by repeat (first | (with_reducible first | exact HB.out | apply bAl | apply pbD | apply bD1) | exact HB.out)⟩
         subst c23
         have H1 : (r9_Missing.l2 k3 l0 (wrap64 (x7_3 + 1))) = some r := by rw [if_pos rfl] at H; exact H
         clear H
         have H := H1
         clear H1
         have H' := aK H
         clear H
         go_wp2_with (first | ((with_reducible refine gate_dst (N := 52) rfl ?_); refine Kd.R_lit (Kd.int .u8) _ 5 ?hg (N := 52) ?hd (xs := ([(wrap64 (48 + x7_3)) % 256] : List Int)) (inner := [.int .u8 ((wrap64 (48 + x7_3)) % 256)]) (ok := fun _ => True) (okp := fun _ => True) ?hr ?hp (fun _ hk => hk) trivial (Below.refl _ _) (Nat.le_refl _) (by simp) ?_; (case hd => rfl); (case hg => rfl); (case hr => first | (go_simp; done) | (go_simp; rfl)); (case hp => exact (Reps.one (show Kd.M (Kd.int .u8) _ _ _ ((wrap64 (48 + x7_3)) % 256) [.int .u8 ((wrap64 (48 + x7_3)) % 256)] from rfl) (Reps.none _ _))); intro v280 w24 ho25 hb hg_ hnew_; clear hg_ hnew_; (first | rw [← Ny279.out] at ho25 | (simp only [Int.reduceToNat] at ho25; rw [← Ny279.out] at ho25)); have n0_ := aK (Kd.R_lower ho25 (bSz (by repeat (first | (with_reducible first | exact HB.out | apply bAl | apply pbD | apply bD1) | exact HB.out)))); have n1_ := aK (bSp (by repeat (first | (with_reducible first | exact HB.out | apply bAl | apply pbD | apply bD1) | exact HB.out)) hb); clear HB; have HO281 := n0_; have HB := n1_; clear n0_ n1_; clear hb ho25; have hcv26 := own_string (P := Try.prog) Try.underlying23 Try.underlying5 Try.underlying9 (Kd.own_of_R HO281.out)) | ((with_reducible refine gate_callee (f := 71) rfl ?_); refine goesL_ (some 56) rfl rfl Try.func71 (by kernel_rfl) rfl #[.slice A0 l0.length c0, .int .i64 7, .string (strOfNums y279)] rfl (by (try simp only [qM0, qM1, qM2]); first | done | rfl | (simp only [qD0, qD1]; rfl)) ?_; (with_reducible refine (r9_has.calls k3 _ _ l0 7 (strOfNums y279) true _ ?side1 ?side2 A22.out).mono ?_); (case side1 => repeat (first | exact (Kd.C_below HR0.out HB.out) | (with_reducible refine Kd.C_alloc ?_ _) | (with_reducible refine Kd.C_drewN ?_ _) | (with_reducible refine Kd.C_drew ?_))); (case side2 => exact HC0.out); rintro e w' ⟨rfl, ⟨nd, rfl⟩⟩; refine ⟨_, rfl, ?_⟩))
         go_roundg k3
         case measure => have := HK1.out; have := HK2.out; have := HK3.out; omega
         case rel => exact ⟨(wrap64 (x7_3 + 1)), (by first | rfl | (simp; done) | (simp [*]; done)), H', ⟨by have := HK1.out; have := HK2.out; have := HK3.out; omega⟩, ⟨by repeat (first | (with_reducible first | exact HB.out | apply bAl | apply pbD | apply bD1) | exact HB.out)⟩⟩
      rw [if_pos c12] at H
      have c12b0 : decide (x6_2 < (t277.size : Int)) = true := decide_eq_true c12
      clear c12
      by_cases c13 : 0 ≤ x6_2
      rotate_left
      ·
       rw [if_neg c13] at H
       exact absurd H (by simp)
      rw [if_pos c13] at H
      have c13b0 := eq_true c13
      have c13b1 : decide (0 ≤ x6_2) = true := decide_eq_true c13
      clear c13
      by_cases c14 : x6_2 ≤ (wrap64 (x6_2 + 1))
      rotate_left
      ·
       rw [if_neg c14] at H
       exact absurd H (by simp)
      rw [if_pos c14] at H
      have c14b0 := eq_true c14
      have c14b1 : decide (x6_2 ≤ (wrap64 (x6_2 + 1))) = true := decide_eq_true c14
      by_cases c15 : (wrap64 (x6_2 + 1)) ≤ (t277.size : Int)
      rotate_left
      ·
       rw [if_neg c15] at H
       exact absurd H (by simp)
      rw [if_pos c15] at H
      have c15b0 := eq_true c15
      have c15b1 : decide ((wrap64 (x6_2 + 1)) ≤ (t277.size : Int)) = true := decide_eq_true c15
      replace H := oB H
      obtain ⟨t278, A160, H⟩ := H
      try dsimp only at H
      have A16 := aK A160
      clear A160
      by_cases c17 : t278 = true
      rotate_left
      ·
       replace c17 := Bool.eq_false_iff.mpr c17
       subst c17
       have H1 : (some (t277.extract (x6_2 : Int).toNat ((wrap64 (x6_2 + 1)) : Int).toNat)) = some r := by rw [if_neg (show ¬ (false = true) by decide)] at H; exact H
       clear H
       have H := H1
       clear H1
       have c18b0 := eq_true (odT (by first | (with_reducible assumption) | assumption) : 0 ≤ x6_2)
       have c19b0 := eq_true (odT (by first | (with_reducible assumption) | assumption) : x6_2 ≤ (wrap64 (x6_2 + 1)))
       have c20b0 := eq_true (odT (by first | (with_reducible assumption) | assumption) : (wrap64 (x6_2 + 1)) ≤ (t277.size : Int))
       obtain rfl := oI H
       go_wp2_with (first | ((with_reducible refine gate_callee (f := 71) rfl ?_); refine goesL_ (some 38) rfl rfl Try.func71 (by kernel_rfl) rfl #[.slice A0 l0.length c0, .int .i64 6, .string (t277.extract (x6_2 : Int).toNat ((wrap64 (x6_2 + 1)) : Int).toNat)] rfl (by (try simp only [qM0, qM1, qM2]); first | done | rfl | (simp only [qD0, qD1]; rfl)) ?_; (with_reducible refine (r9_has.calls k2 _ _ l0 6 (t277.extract (x6_2 : Int).toNat ((wrap64 (x6_2 + 1)) : Int).toNat) false _ ?side1 ?side2 A16.out).mono ?_); (case side1 => repeat (first | exact (Kd.C_below HR0.out HB.out) | (with_reducible refine Kd.C_alloc ?_ _) | (with_reducible refine Kd.C_drewN ?_ _) | (with_reducible refine Kd.C_drew ?_))); (case side2 => exact HC0.out); rintro e w' ⟨rfl, ⟨nd, rfl⟩⟩; refine ⟨_, rfl, ?_⟩))
       go_ret
       exact ⟨by first | rfl | (simp [eWn, eWs] <;> rfl) | (simp [*, eWn, eWs] <;> rfl), by repeat (first | (with_reducible first | exact HB.out | apply bAl | apply pbD | apply bD1) | exact HB.out)⟩
      subst c17
      have H1 : (r9_Missing.l1 k2 l0 t277 (wrap64 (x6_2 + 1))) = some r := by rw [if_pos rfl] at H; exact H
      clear H
      have H := H1
      clear H1
      have H' := aK H
      clear H
      go_wp2_with (first | ((with_reducible refine gate_callee (f := 71) rfl ?_); refine goesL_ (some 38) rfl rfl Try.func71 (by kernel_rfl) rfl #[.slice A0 l0.length c0, .int .i64 6, .string (t277.extract (x6_2 : Int).toNat ((wrap64 (x6_2 + 1)) : Int).toNat)] rfl (by (try simp only [qM0, qM1, qM2]); first | done | rfl | (simp only [qD0, qD1]; rfl)) ?_; (with_reducible refine (r9_has.calls k2 _ _ l0 6 (t277.extract (x6_2 : Int).toNat ((wrap64 (x6_2 + 1)) : Int).toNat) true _ ?side1 ?side2 A16.out).mono ?_); (case side1 => repeat (first | exact (Kd.C_below HR0.out HB.out) | (with_reducible refine Kd.C_alloc ?_ _) | (with_reducible refine Kd.C_drewN ?_ _) | (with_reducible refine Kd.C_drew ?_))); (case side2 => exact HC0.out); rintro e w' ⟨rfl, ⟨nd, rfl⟩⟩; refine ⟨_, rfl, ?_⟩))
      go_roundg k2
      case measure => have := HK1.out; have := HK2.out; omega
      case rel => exact ⟨(wrap64 (x6_2 + 1)), (by first | rfl | (simp; done) | (simp [*]; done)), H', ⟨by have := HK1.out; have := HK2.out; omega⟩, ⟨by repeat (first | (with_reducible first | exact HB.out | apply bAl | apply pbD | apply bD1) | exact HB.out)⟩⟩
   rw [if_pos c2] at H
   have c2b0 : decide (x3_1 < 26) = true := decide_eq_true c2
   clear c2
   obtain ⟨y273, hy273⟩ : ∃ y_ : List Int, y_ = (([(wrap64 (97 + x3_1)) % 256] : List Int)) := ⟨_, rfl⟩
   replace H : ((r9_has.f k1 l0 1 (strOfNums y273)).bind fun t276 => (if t276 = true then (r9_Missing.l0 k1 l0 (wrap64 (x3_1 + 1))) else (some (strOfNums y273)))) = some r := by first | (rw [hy273]; with_reducible exact H) | (have H2_ := (Option.bind_some _ _).symm.trans H; rw [hy273]; with_reducible exact H2_) | (have H2_ := (Option.bind_some _ _).symm.trans H; with_reducible exact H2_) | with_reducible exact H | (rw [hy273]; exact H) | exact H
   have Ny273 := aK hy273
   clear hy273
   replace H := oB H
   obtain ⟨t276, A30, H⟩ := H
   try dsimp only at H
   have A3 := aK A30
   clear A30
   by_cases c4 : t276 = true
   rotate_left
   ·
    replace c4 := Bool.eq_false_iff.mpr c4
    subst c4
    have H1 : (some (strOfNums y273)) = some r := by rw [if_neg (show ¬ (false = true) by decide)] at H; exact H
    clear H
    have H := H1
    clear H1
    obtain rfl := oI H
    go_wp2_with (first | ((with_reducible refine gate_dst (N := 18) rfl ?_); refine Kd.R_lit (Kd.int .u8) _ 5 ?hg (N := 18) ?hd (xs := ([(wrap64 (97 + x3_1)) % 256] : List Int)) (inner := [.int .u8 ((wrap64 (97 + x3_1)) % 256)]) (ok := fun _ => True) (okp := fun _ => True) ?hr ?hp (fun _ hk => hk) trivial (Below.refl _ _) (Nat.le_refl _) (by simp) ?_; (case hd => rfl); (case hg => rfl); (case hr => first | (go_simp; done) | (go_simp; rfl)); (case hp => exact (Reps.one (show Kd.M (Kd.int .u8) _ _ _ ((wrap64 (97 + x3_1)) % 256) [.int .u8 ((wrap64 (97 + x3_1)) % 256)] from rfl) (Reps.none _ _))); intro v274 w8 ho9 hb hg_ hnew_; clear hg_ hnew_; (first | rw [← Ny273.out] at ho9 | (simp only [Int.reduceToNat] at ho9; rw [← Ny273.out] at ho9)); have n0_ := aK (Kd.R_lower ho9 (bSz (by repeat (first | (with_reducible first | exact HB.out | apply bAl | apply pbD | apply bD1) | exact HB.out)))); have n1_ := aK (bSp (by repeat (first | (with_reducible first | exact HB.out | apply bAl | apply pbD | apply bD1) | exact HB.out)) hb); clear HB; have HO275 := n0_; have HB := n1_; clear n0_ n1_; clear hb ho9; have hcv10 := own_string (P := Try.prog) Try.underlying23 Try.underlying5 Try.underlying9 (Kd.own_of_R HO275.out)) | ((with_reducible refine gate_callee (f := 71) rfl ?_); refine goesL_ (some 22) rfl rfl Try.func71 (by kernel_rfl) rfl #[.slice A0 l0.length c0, .int .i64 1, .string (strOfNums y273)] rfl (by (try simp only [qM0, qM1, qM2]); first | done | rfl | (simp only [qD0, qD1]; rfl)) ?_; (with_reducible refine (r9_has.calls k1 _ _ l0 1 (strOfNums y273) false _ ?side1 ?side2 A3.out).mono ?_); (case side1 => repeat (first | exact (Kd.C_below HR0.out HB.out) | (with_reducible refine Kd.C_alloc ?_ _) | (with_reducible refine Kd.C_drewN ?_ _) | (with_reducible refine Kd.C_drew ?_))); (case side2 => exact HC0.out); rintro e w' ⟨rfl, ⟨nd, rfl⟩⟩; refine ⟨_, rfl, ?_⟩))
    go_ret
    exact ⟨by first | rfl | (simp [eWn, eWs] <;> rfl) | (simp [*, eWn, eWs] <;> rfl), by repeat (first | (with_reducible first | exact HB.out | apply bAl | apply pbD | apply bD1) | exact HB.out)⟩
   subst c4
   have H1 : (r9_Missing.l0 k1 l0 (wrap64 (x3_1 + 1))) = some r := by rw [if_pos rfl] at H; exact H
   clear H
   have H := H1
   clear H1
   have H' := aK H
   clear H
   go_wp2_with (first | ((with_reducible refine gate_dst (N := 18) rfl ?_); refine Kd.R_lit (Kd.int .u8) _ 5 ?hg (N := 18) ?hd (xs := ([(wrap64 (97 + x3_1)) % 256] : List Int)) (inner := [.int .u8 ((wrap64 (97 + x3_1)) % 256)]) (ok := fun _ => True) (okp := fun _ => True) ?hr ?hp (fun _ hk => hk) trivial (Below.refl _ _) (Nat.le_refl _) (by simp) ?_; (case hd => rfl); (case hg => rfl); (case hr => first | (go_simp; done) | (go_simp; rfl)); (case hp => exact (Reps.one (show Kd.M (Kd.int .u8) _ _ _ ((wrap64 (97 + x3_1)) % 256) [.int .u8 ((wrap64 (97 + x3_1)) % 256)] from rfl) (Reps.none _ _))); intro v274 w5 ho6 hb hg_ hnew_; clear hg_ hnew_; (first | rw [← Ny273.out] at ho6 | (simp only [Int.reduceToNat] at ho6; rw [← Ny273.out] at ho6)); have n0_ := aK (Kd.R_lower ho6 (bSz (by repeat (first | (with_reducible first | exact HB.out | apply bAl | apply pbD | apply bD1) | exact HB.out)))); have n1_ := aK (bSp (by repeat (first | (with_reducible first | exact HB.out | apply bAl | apply pbD | apply bD1) | exact HB.out)) hb); clear HB; have HO275 := n0_; have HB := n1_; clear n0_ n1_; clear hb ho6; have hcv7 := own_string (P := Try.prog) Try.underlying23 Try.underlying5 Try.underlying9 (Kd.own_of_R HO275.out)) | ((with_reducible refine gate_callee (f := 71) rfl ?_); refine goesL_ (some 22) rfl rfl Try.func71 (by kernel_rfl) rfl #[.slice A0 l0.length c0, .int .i64 1, .string (strOfNums y273)] rfl (by (try simp only [qM0, qM1, qM2]); first | done | rfl | (simp only [qD0, qD1]; rfl)) ?_; (with_reducible refine (r9_has.calls k1 _ _ l0 1 (strOfNums y273) true _ ?side1 ?side2 A3.out).mono ?_); (case side1 => repeat (first | exact (Kd.C_below HR0.out HB.out) | (with_reducible refine Kd.C_alloc ?_ _) | (with_reducible refine Kd.C_drewN ?_ _) | (with_reducible refine Kd.C_drew ?_))); (case side2 => exact HC0.out); rintro e w' ⟨rfl, ⟨nd, rfl⟩⟩; refine ⟨_, rfl, ?_⟩))
   go_roundg k1
   case measure => have := HK1.out; omega
   case rel => exact ⟨(wrap64 (x3_1 + 1)), (by first | rfl | (simp; done) | (simp [*]; done)), H', ⟨by have := HK1.out; omega⟩, ⟨by repeat (first | (with_reducible first | exact HB.out | apply bAl | apply pbD | apply bD1) | exact HB.out)⟩⟩
end Go.Proofs.Ytbpbniemjjhecaa.PChk
