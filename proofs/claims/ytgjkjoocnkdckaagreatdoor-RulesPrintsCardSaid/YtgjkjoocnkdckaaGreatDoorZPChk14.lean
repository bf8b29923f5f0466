-- Written by a program of this session (prt.py), out of the translation. Lean checks it.
import Derived.Test.YtgjkjoocnkdckaaGreatDoorZGRulOf
import Derived.Test.YtgjkjoocnkdckaaGreatDoorZPChk0
import Derived.Test.YtgjkjoocnkdckaaGreatDoorZPChk6
namespace Go.Proofs.YtgjkjoocnkdckaaGreatDoor.PChk
open Go.RowKit Go.Proofs.YtgjkjoocnkdckaaGreatDoor.G Go.Proofs.YtgjkjoocnkdckaaGreatDoorW.PrintWords Go.Proofs.YtgjkjoocnkdckaaGreatDoorW.PrintLast Go.Proofs.YtgjkjoocnkdckaaGreatDoorW.PrintMore
attribute [local go_sem] max2_int min2_int max_two min_two max_three min_three max_four min_four   -- for this text's walks alone
set_option linter.unusedVariables false
set_option linter.unusedSimpArgs false
def r8_Of.l0 : Nat → List (S47) → Int → ByteArray → Int → Option (ByteArray)
 | 0, _, _, _, _ => none
 | k + 1, x0, x1, x2, x7 => if x7 < (x0.length : Int) then (if 0 ≤ x7 then (if ((rd_T47 x0 x7).f0) = x1 then (if ((rd_T47 x0 x7).f1).toList = x2.toList then (some ((rd_T47 x0 x7).f2)) else (r8_Of.l0 k x0 x1 x2 (wrap64 (x7 + 1)))) else (r8_Of.l0 k x0 x1 x2 (wrap64 (x7 + 1)))) else (none)) else (some (⟨#[]⟩ : ByteArray))
def r8_Of.f (k : Nat) (l0 : List (S47)) (a1 : Int) (a2 : ByteArray) : Option (ByteArray) := r8_Of.l0 k l0 a1 a2 0
theorem r8_Of.mono_l : ∀ k, (∀ y0 y1 y2 y3, LeO (r8_Of.l0 k y0 y1 y2 y3) (r8_Of.l0 (k + 1) y0 y1 y2 y3))
 | 0 => fun _ _ _ _ r h => by simp [r8_Of.l0] at h
 | k + 1 => by
  have ih0 := r8_Of.mono_l k
  ·
   intro y0 y1 y2 y3
   unfold r8_Of.l0
   repeat' first
   | (with_reducible exact ih0 _ _ _ _)
   | (with_reducible exact LeO.refl _)
   | (with_reducible exact LeO.none _)
   | (with_reducible refine LeO.ite ?_ ?_)
   | (with_reducible refine LeO.bind ?_ (fun _ => ?_))
   | exact ih0 _ _ _ _
   | exact LeO.none _
   | refine LeO.ite ?_ ?_
   | refine LeO.bind ?_ (fun _ => ?_)
theorem r8_Of.mono : ∀ a0 a1 a2 k, LeO (r8_Of.f k a0 a1 a2) (r8_Of.f (k + 1) a0 a1 a2) := by
 intro a0 a1 a2 k
 have ih0 := r8_Of.mono_l k
 unfold r8_Of.f
 repeat' first
   | (with_reducible exact ih0 _ _ _ _)
   | (with_reducible exact LeO.refl _)
   | (with_reducible exact LeO.none _)
   | (with_reducible refine LeO.ite ?_ ?_)
   | (with_reducible refine LeO.bind ?_ (fun _ => ?_))
   | exact ih0 _ _ _ _
   | exact LeO.none _
   | refine LeO.ite ?_ ?_
   | refine LeO.bind ?_ (fun _ => ?_)
set_option maxHeartbeats 8000000 in
set_option maxRecDepth 100000 in
theorem r8_Of.calls (k : Nat) (A0 : Option Addr) (c0 : Nat) (l0 : List (S47)) (a1 : Int) (a2 : ByteArray) (r : ByteArray) (w : World) (hr0 : Kd.C k47 w A0 l0.length l0) (hc0 : l0.length ≤ c0) (h : r8_Of.f k l0 a1 a2 = some r) :
  Calls Tryz.prog 56 #[.slice A0 l0.length c0, .int .i64 a1, .string a2] w fun e w' => e = .returned (.string r) ∧ Drawn0 w w' := by
 have HR0 := aK hr0
 have HC0 := aK hc0
 clear hr0 hc0
 have H : (r8_Of.l0 k l0 a1 a2 0) = some r := h
 clear h
 have H' := aK H
 clear H
 go_enter Tryz.func56, Tryz.ntmps56
 go_wp2
 go_loopg [7] k (fun kq v7 w' => ∃ (x7_1 : Int), v7 = .int .i64 x7_1 ∧ Aside0 (r8_Of.l0 kq l0 a1 a2 x7_1 = some r) ∧ Aside0 (kq ≤ k) ∧ Drawn0 w w')
 case atStart => exact ⟨(0), (by first | rfl | (simp; done) | (simp [*]; done)), H', ⟨Nat.le_refl _⟩, by repeat (first | exact Drawn0.refl _ | apply Drawn0.step)⟩
 case round =>
  clear H'
  try clear p2
  obtain ⟨x7_1, rfl, HA, HK1, ⟨m1, rfl⟩⟩ := hrel
  cases gk with
  | zero => exact absurd HA.out (by simp [r8_Of.l0])
  | succ k1 =>
   have H := HA.out
   clear HA
   simp only [r8_Of.l0] at H
   by_cases c4 : x7_1 < (l0.length : Int)
   ·
    rw [if_pos c4] at H
    have c4b0 : decide (x7_1 < (l0.length : Int)) = true := decide_eq_true c4
    clear c4
    by_cases c5 : 0 ≤ x7_1
    ·
     rw [if_pos c5] at H
     have c5b0 : decide (0 ≤ x7_1) = true := decide_eq_true c5
     clear c5
     by_cases c6 : ((rd_T47 l0 x7_1).f0) = a1
     ·
      rw [if_pos c6] at H
      have c6b0 : (((rd_T47 l0 x7_1).f0) == a1) = true := beq_iff_eq.mpr c6
      have c6b1 : (((rd_T47 l0 x7_1).f0) != a1) = false := bne_eq_false_iff_eq.mpr c6
      clear c6
      by_cases c7 : ((rd_T47 l0 x7_1).f1).toList = a2.toList
      ·
       rw [if_pos c7] at H
       have c7b0 : (((rd_T47 l0 x7_1).f1).toList == a2.toList) = true := beq_iff_eq.mpr c7
       have c7b1 : (((rd_T47 l0 x7_1).f1).toList != a2.toList) = false := bne_eq_false_iff_eq.mpr c7
       clear c7
       obtain rfl := oI H
       have p315 : 0 ≤ (x7_1 : Int) := odT (by first | (with_reducible assumption) | assumption)
       have q315 : x7_1 < (l0.length : Int) := odT (by first | (with_reducible assumption) | assumption)
       obtain ⟨ad315, e315, hx315_0, hx315_1, hx315_2, hx315_3, hx315_4⟩ := at_T47 HR0.out x7_1 p315 q315
       cases e315
       replace p315 := eq_true p315
       replace q315 := eq_true q315
       have p316 : 0 ≤ (x7_1 : Int) := odT (by first | (with_reducible assumption) | assumption)
       have q316 : x7_1 < (l0.length : Int) := odT (by first | (with_reducible assumption) | assumption)
       obtain ⟨ad316, e316, hx316_0, hx316_1, hx316_2, hx316_3, hx316_4⟩ := at_T47 HR0.out x7_1 p316 q316
       obtain rfl : ad315 = ad316 := (by injection e316)
       replace p316 := eq_true p316
       replace q316 := eq_true q316
       have p317 : 0 ≤ (x7_1 : Int) := odT (by first | (with_reducible assumption) | assumption)
       have q317 : x7_1 < (l0.length : Int) := odT (by first | (with_reducible assumption) | assumption)
       obtain ⟨ad317, e317, hx317_0, hx317_1, hx317_2, hx317_3, hx317_4⟩ := at_T47 HR0.out x7_1 p317 q317
       obtain rfl : ad315 = ad317 := (by injection e317)
       replace p317 := eq_true p317
       replace q317 := eq_true q317
       go_wp2
       go_ret
       exact ⟨by first | rfl | (simp; done) | (simp [*]; done), by repeat (first | exact Drawn0.refl _ | apply Drawn0.step)⟩
      ·
       rw [if_neg c7] at H
       have c7b0 : (((rd_T47 l0 x7_1).f1).toList == a2.toList) = false := beq_eq_false_iff_ne.mpr c7
       have c7b1 : (((rd_T47 l0 x7_1).f1).toList != a2.toList) = true := bne_iff_ne.mpr c7
       have H' := aK H
       clear H
       have p315 : 0 ≤ (x7_1 : Int) := odT (by first | (with_reducible assumption) | assumption)
       have q315 : x7_1 < (l0.length : Int) := odT (by first | (with_reducible assumption) | assumption)
       obtain ⟨ad315, e315, hx315_0, hx315_1, hx315_2, hx315_3, hx315_4⟩ := at_T47 HR0.out x7_1 p315 q315
       cases e315
       replace p315 := eq_true p315
       replace q315 := eq_true q315
       have p316 : 0 ≤ (x7_1 : Int) := odT (by first | (with_reducible assumption) | assumption)
       have q316 : x7_1 < (l0.length : Int) := odT (by first | (with_reducible assumption) | assumption)
       obtain ⟨ad316, e316, hx316_0, hx316_1, hx316_2, hx316_3, hx316_4⟩ := at_T47 HR0.out x7_1 p316 q316
       obtain rfl : ad315 = ad316 := (by injection e316)
       replace p316 := eq_true p316
       replace q316 := eq_true q316
       go_wp2
       go_roundg k1
       case measure => have := HK1.out; omega
       case rel => exact ⟨(wrap64 (x7_1 + 1)), (by first | rfl | (simp; done) | (simp [*]; done)), H', ⟨by have := HK1.out; omega⟩, by repeat (first | exact Drawn0.refl _ | apply Drawn0.step)⟩
     ·
      rw [if_neg c6] at H
      have c6b0 : (((rd_T47 l0 x7_1).f0) == a1) = false := beq_eq_false_iff_ne.mpr c6
      have c6b1 : (((rd_T47 l0 x7_1).f0) != a1) = true := bne_iff_ne.mpr c6
      have H' := aK H
      clear H
      have p315 : 0 ≤ (x7_1 : Int) := odT (by first | (with_reducible assumption) | assumption)
      have q315 : x7_1 < (l0.length : Int) := odT (by first | (with_reducible assumption) | assumption)
      obtain ⟨ad315, e315, hx315_0, hx315_1, hx315_2, hx315_3, hx315_4⟩ := at_T47 HR0.out x7_1 p315 q315
      cases e315
      replace p315 := eq_true p315
      replace q315 := eq_true q315
      go_wp2
      go_roundg k1
      case measure => have := HK1.out; omega
      case rel => exact ⟨(wrap64 (x7_1 + 1)), (by first | rfl | (simp; done) | (simp [*]; done)), H', ⟨by have := HK1.out; omega⟩, by repeat (first | exact Drawn0.refl _ | apply Drawn0.step)⟩
    ·
     rw [if_neg c5] at H
     exact absurd H (by simp)
   ·
    rw [if_neg c4] at H
    have c4b0 : decide (x7_1 < (l0.length : Int)) = false := decide_eq_false c4
    clear c4
    obtain rfl := oI H
    go_wp2
    go_ret
    exact ⟨by first | rfl | (simp; done) | (simp [*]; done), by repeat (first | exact Drawn0.refl _ | apply Drawn0.step)⟩
def r8_Sign.f (k : Nat) (l0 : List (S47)) (a1 : ByteArray) : Option (ByteArray) := (r8_Of.f k l0 8 a1).bind fun t318 => (some t318)
theorem r8_Sign.mono : ∀ a0 a1 k, LeO (r8_Sign.f k a0 a1) (r8_Sign.f (k + 1) a0 a1) := by
 intro a0 a1 k
 unfold r8_Sign.f
 repeat' first
   | (with_reducible exact r8_Of.mono _ _ _ _)
   | (with_reducible exact LeO.refl _)
   | (with_reducible exact LeO.none _)
   | (with_reducible refine LeO.ite ?_ ?_)
   | (with_reducible refine LeO.bind ?_ (fun _ => ?_))
   | exact r8_Of.mono _ _ _ _
   | exact LeO.none _
   | refine LeO.ite ?_ ?_
   | refine LeO.bind ?_ (fun _ => ?_)
set_option maxHeartbeats 8000000 in
set_option maxRecDepth 100000 in
theorem r8_Sign.calls (k : Nat) (A0 : Option Addr) (c0 : Nat) (l0 : List (S47)) (a1 : ByteArray) (r : ByteArray) (w : World) (hr0 : Kd.C k47 w A0 l0.length l0) (hc0 : l0.length ≤ c0) (h : r8_Sign.f k l0 a1 = some r) :
  Calls Tryz.prog 23 #[.slice A0 l0.length c0, .string a1] w fun e w' => e = .returned (.string r) ∧ Drawn0 w w' := by
 have HR0 := aK hr0
 have HC0 := aK hc0
 clear hr0 hc0
 have H : ((r8_Of.f k l0 8 a1).bind fun t318 => (some t318)) = some r := h
 clear h
 replace H := oB H
 obtain ⟨t318, A30, H⟩ := H
 replace H : (some t318) = some r := H
 have A3 := aK A30
 clear A30
 obtain rfl := oI H
 go_enter Tryz.func23, Tryz.ntmps23
 go_wp2_with (first | ((with_reducible refine gate_callee (f := 56) rfl ?_); refine goesL_ (some 7) rfl rfl Tryz.func56 (by kernel_rfl) rfl #[.slice A0 l0.length c0, .int .i64 8, .string a1] rfl (by (try simp only [qM0, qM1, qM2]); first | done | rfl | (simp only [qD0, qD1]; rfl)) ?_; (with_reducible refine (r8_Of.calls k _ _ l0 8 a1 t318 _ ?side1 ?side2 A3.out).mono ?_); (case side1 => repeat (first | exact HR0.out | (with_reducible refine Kd.C_alloc ?_ _) | (with_reducible refine Kd.C_drewN ?_ _) | (with_reducible refine Kd.C_drew ?_))); (case side2 => exact HC0.out); rintro e w' ⟨rfl, ⟨nd, rfl⟩⟩; refine ⟨_, rfl, ?_⟩))
 go_ret
 exact ⟨by first | rfl | (simp; done) | (simp [*]; done), by repeat (first | exact Drawn0.refl _ | apply Drawn0.step)⟩
def r8_Mark.f (k : Nat) (l0 : List (S47)) (a1 : Int) : Option (ByteArray) := (r8_Of.f k l0 6 (strOfNums (([a1] : List Int)))).bind fun t322 => (some t322)
theorem r8_Mark.mono : ∀ a0 a1 k, LeO (r8_Mark.f k a0 a1) (r8_Mark.f (k + 1) a0 a1) := by
 intro a0 a1 k
 unfold r8_Mark.f
 repeat' first
   | (with_reducible exact r8_Of.mono _ _ _ _)
   | (with_reducible exact LeO.refl _)
   | (with_reducible exact LeO.none _)
   | (with_reducible refine LeO.ite ?_ ?_)
   | (with_reducible refine LeO.bind ?_ (fun _ => ?_))
   | exact r8_Of.mono _ _ _ _
   | exact LeO.none _
   | refine LeO.ite ?_ ?_
   | refine LeO.bind ?_ (fun _ => ?_)
set_option maxHeartbeats 8000000 in
set_option maxRecDepth 100000 in
theorem r8_Mark.calls (k : Nat) (A0 : Option Addr) (c0 : Nat) (l0 : List (S47)) (a1 : Int) (r : ByteArray) (w : World) (hr0 : Kd.C k47 w A0 l0.length l0) (hc0 : l0.length ≤ c0) (h : r8_Mark.f k l0 a1 = some r) :
  Calls Tryz.prog 25 #[.slice A0 l0.length c0, .int .u8 a1] w fun e w' => e = .returned (.string r) ∧ Below w.heap.size w w' := by
 have HR0 := aK hr0
 have HC0 := aK hc0
 clear hr0 hc0
 have HB := aK (Below.refl w.heap.size w)
 have H : ((r8_Of.f k l0 6 (strOfNums (([a1] : List Int)))).bind fun t322 => (some t322)) = some r := h
 clear h
 obtain ⟨y319, hy319⟩ : ∃ y_ : List Int, y_ = (([a1] : List Int)) := ⟨_, rfl⟩
 replace H : ((r8_Of.f k l0 6 (strOfNums y319)).bind fun t322 => (some t322)) = some r := by first | (rw [hy319]; with_reducible exact H) | (have H2_ := (Option.bind_some _ _).symm.trans H; rw [hy319]; with_reducible exact H2_) | (have H2_ := (Option.bind_some _ _).symm.trans H; with_reducible exact H2_) | with_reducible exact H | (rw [hy319]; exact H) | exact H
 have Ny319 := aK hy319
 clear hy319
 replace H := oB H
 obtain ⟨t322, A30, H⟩ := H
 replace H : (some t322) = some r := H
 have A3 := aK A30
 clear A30
 obtain rfl := oI H
 go_enter Tryz.func25, Tryz.ntmps25
 go_wp2_with (first | ((with_reducible refine gate_dst (N := 7) rfl ?_); refine Kd.R_lit (Kd.int .u8) _ 5 ?hg (N := 7) ?hd (xs := ([a1] : List Int)) (inner := [.int .u8 a1]) (ok := fun _ => True) (okp := fun _ => True) ?hr ?hp (fun _ hk => hk) trivial (Below.refl _ _) (Nat.le_refl _) (by simp) ?_; (case hd => rfl); (case hg => rfl); (case hr => first | (go_simp; done) | (go_simp; rfl)); (case hp => exact (Reps.one (show Kd.M (Kd.int .u8) _ _ _ a1 [.int .u8 a1] from rfl) (Reps.none _ _))); intro v320 w4 ho5 hb hg_ hnew_; clear hg_ hnew_; (first | rw [← Ny319.out] at ho5 | (simp only [Int.reduceToNat] at ho5; rw [← Ny319.out] at ho5)); have n0_ := aK (Kd.R_lower ho5 (bSz (by repeat (first | (with_reducible first | exact HB.out | apply bAl | apply pbD | apply bD1) | exact HB.out)))); have n1_ := aK (bSp (by repeat (first | (with_reducible first | exact HB.out | apply bAl | apply pbD | apply bD1) | exact HB.out)) hb); clear HB; have HO321 := n0_; have HB := n1_; clear n0_ n1_; clear hb ho5; have hcv6 := own_string (P := Tryz.prog) Tryz.underlying86 Tryz.underlying5 Tryz.underlying9 (Kd.own_of_R HO321.out)) | ((with_reducible refine gate_callee (f := 56) rfl ?_); refine goesL_ (some 9) rfl rfl Tryz.func56 (by kernel_rfl) rfl #[.slice A0 l0.length c0, .int .i64 6, .string (strOfNums y319)] rfl (by (try simp only [qM0, qM1, qM2]); first | done | rfl | (simp only [qD0, qD1]; rfl)) ?_; (with_reducible refine (r8_Of.calls k _ _ l0 6 (strOfNums y319) t322 _ ?side1 ?side2 A3.out).mono ?_); (case side1 => repeat (first | exact (Kd.C_below HR0.out HB.out) | (with_reducible refine Kd.C_alloc ?_ _) | (with_reducible refine Kd.C_drewN ?_ _) | (with_reducible refine Kd.C_drew ?_))); (case side2 => exact HC0.out); rintro e w' ⟨rfl, ⟨nd, rfl⟩⟩; refine ⟨_, rfl, ?_⟩))
 go_ret
 exact ⟨by first | rfl | (simp [eWn, eWs] <;> rfl) | (simp [*, eWn, eWs] <;> rfl), by repeat (first | (with_reducible first | exact HB.out | apply bAl | apply pbD | apply bD1) | exact HB.out)⟩
def rules_Digit.f (l0 : List (S47)) (a1 : Int) : Option (ByteArray) := (rules_of.f l0 7 (strOfNums (([a1] : List Int)))).bind fun t326 => (some t326)
set_option maxHeartbeats 8000000 in
set_option maxRecDepth 100000 in
theorem rules_Digit.calls (A0 : Option Addr) (c0 : Nat) (l0 : List (S47)) (a1 : Int) (r : ByteArray) (w : World) (hr0 : Kd.C k47 w A0 l0.length l0) (hc0 : l0.length ≤ c0) (h : rules_Digit.f l0 a1 = some r) :
  Calls Tryz.prog 26 #[.slice A0 l0.length c0, .int .u8 a1] w fun e w' => e = .returned (.string r) ∧ Below w.heap.size w w' := by
 have HR0 := aK hr0
 have HC0 := aK hc0
 clear hr0 hc0
 have HB := aK (Below.refl w.heap.size w)
 have H : ((rules_of.f l0 7 (strOfNums (([a1] : List Int)))).bind fun t326 => (some t326)) = some r := h
 clear h
 obtain ⟨y323, hy323⟩ : ∃ y_ : List Int, y_ = (([a1] : List Int)) := ⟨_, rfl⟩
 replace H : ((rules_of.f l0 7 (strOfNums y323)).bind fun t326 => (some t326)) = some r := by first | (rw [hy323]; with_reducible exact H) | (have H2_ := (Option.bind_some _ _).symm.trans H; rw [hy323]; with_reducible exact H2_) | (have H2_ := (Option.bind_some _ _).symm.trans H; with_reducible exact H2_) | with_reducible exact H | (rw [hy323]; exact H) | exact H
 have Ny323 := aK hy323
 clear hy323
 replace H := oB H
 obtain ⟨t326, A30, H⟩ := H
 replace H : (some t326) = some r := H
 have A3 := aK A30
 clear A30
 obtain rfl := oI H
 go_enter Tryz.func26, Tryz.ntmps26
 go_wp2_with (first | ((with_reducible refine gate_dst (N := 7) rfl ?_); refine Kd.R_lit (Kd.int .u8) _ 5 ?hg (N := 7) ?hd (xs := ([a1] : List Int)) (inner := [.int .u8 a1]) (ok := fun _ => True) (okp := fun _ => True) ?hr ?hp (fun _ hk => hk) trivial (Below.refl _ _) (Nat.le_refl _) (by simp) ?_; (case hd => rfl); (case hg => rfl); (case hr => first | (go_simp; done) | (go_simp; rfl)); (case hp => exact (Reps.one (show Kd.M (Kd.int .u8) _ _ _ a1 [.int .u8 a1] from rfl) (Reps.none _ _))); intro v324 w4 ho5 hb hg_ hnew_; clear hg_ hnew_; (first | rw [← Ny323.out] at ho5 | (simp only [Int.reduceToNat] at ho5; rw [← Ny323.out] at ho5)); have n0_ := aK (Kd.R_lower ho5 (bSz (by repeat (first | (with_reducible first | exact HB.out | apply bAl | apply pbD | apply bD1) | exact HB.out)))); have n1_ := aK (bSp (by repeat (first | (with_reducible first | exact HB.out | apply bAl | apply pbD | apply bD1) | exact HB.out)) hb); clear HB; have HO325 := n0_; have HB := n1_; clear n0_ n1_; clear hb ho5; have hcv6 := own_string (P := Tryz.prog) Tryz.underlying86 Tryz.underlying5 Tryz.underlying9 (Kd.own_of_R HO325.out)) | ((with_reducible refine gate_callee (f := 55) rfl ?_); refine goesL_ (some 9) rfl rfl Tryz.func55 (by kernel_rfl) rfl #[.slice A0 l0.length c0, .int .i64 7, .string (strOfNums y323)] rfl (by (try simp only [qM0, qM1, qM2]); first | done | rfl | (simp only [qD0, qD1]; rfl)) ?_; (with_reducible refine (rules_of.calls _ _ l0 7 (strOfNums y323) t326 _ ?side1 ?side2 A3.out).mono ?_); (case side1 => repeat (first | exact (Kd.C_below HR0.out HB.out) | (with_reducible refine Kd.C_alloc ?_ _) | (with_reducible refine Kd.C_drewN ?_ _) | (with_reducible refine Kd.C_drew ?_))); (case side2 => exact HC0.out); rintro e w7 ⟨rfl, hb⟩; refine ⟨_, rfl, ?_⟩; have n0_ := aK (Kd.R_below (by (with_reducible repeat (first | apply Kd.R_alloc | apply Kd.R_drewN | apply Kd.R_drew)); exact HO325.out) hb); have n1_ := aK (bSp (by repeat (first | (with_reducible first | exact HB.out | apply bAl | apply pbD | apply bD1) | exact HB.out)) hb); clear HO325; clear HB; have HO325 := n0_; have HB := n1_; clear n0_ n1_; (try clear hb); (try clear hb2); (try clear hk); (try clear hi)))
 go_ret
 exact ⟨by first | rfl | (simp [eWn, eWs] <;> rfl) | (simp [*, eWn, eWs] <;> rfl), by repeat (first | (with_reducible first | exact HB.out | apply bAl | apply pbD | apply bD1) | exact HB.out)⟩
def r8_Digit.f (k : Nat) (l0 : List (S47)) (a1 : Int) : Option (ByteArray) := (r8_Of.f k l0 7 (strOfNums (([a1] : List Int)))).bind fun t330 => (some t330)
theorem r8_Digit.mono : ∀ a0 a1 k, LeO (r8_Digit.f k a0 a1) (r8_Digit.f (k + 1) a0 a1) := by
 intro a0 a1 k
 unfold r8_Digit.f
 repeat' first
   | (with_reducible exact r8_Of.mono _ _ _ _)
   | (with_reducible exact LeO.refl _)
   | (with_reducible exact LeO.none _)
   | (with_reducible refine LeO.ite ?_ ?_)
   | (with_reducible refine LeO.bind ?_ (fun _ => ?_))
   | exact r8_Of.mono _ _ _ _
   | exact LeO.none _
   | refine LeO.ite ?_ ?_
   | refine LeO.bind ?_ (fun _ => ?_)
set_option maxHeartbeats 8000000 in
set_option maxRecDepth 100000 in
theorem r8_Digit.calls (k : Nat) (A0 : Option Addr) (c0 : Nat) (l0 : List (S47)) (a1 : Int) (r : ByteArray) (w : World) (hr0 : Kd.C k47 w A0 l0.length l0) (hc0 : l0.length ≤ c0) (h : r8_Digit.f k l0 a1 = some r) :
  Calls Tryz.prog 27 #[.slice A0 l0.length c0, .int .u8 a1] w fun e w' => e = .returned (.string r) ∧ Below w.heap.size w w' := by
 have HR0 := aK hr0
 have HC0 := aK hc0
 clear hr0 hc0
 have HB := aK (Below.refl w.heap.size w)
 have H : ((r8_Of.f k l0 7 (strOfNums (([a1] : List Int)))).bind fun t330 => (some t330)) = some r := h
 clear h
 obtain ⟨y327, hy327⟩ : ∃ y_ : List Int, y_ = (([a1] : List Int)) := ⟨_, rfl⟩
 replace H : ((r8_Of.f k l0 7 (strOfNums y327)).bind fun t330 => (some t330)) = some r := by first | (rw [hy327]; with_reducible exact H) | (have H2_ := (Option.bind_some _ _).symm.trans H; rw [hy327]; with_reducible exact H2_) | (have H2_ := (Option.bind_some _ _).symm.trans H; with_reducible exact H2_) | with_reducible exact H | (rw [hy327]; exact H) | exact H
 have Ny327 := aK hy327
 clear hy327
 replace H := oB H
 obtain ⟨t330, A30, H⟩ := H
 replace H : (some t330) = some r := H
 have A3 := aK A30
 clear A30
 obtain rfl := oI H
 go_enter Tryz.func27, Tryz.ntmps27
 go_wp2_with (first | ((with_reducible refine gate_dst (N := 7) rfl ?_); refine Kd.R_lit (Kd.int .u8) _ 5 ?hg (N := 7) ?hd (xs := ([a1] : List Int)) (inner := [.int .u8 a1]) (ok := fun _ => True) (okp := fun _ => True) ?hr ?hp (fun _ hk => hk) trivial (Below.refl _ _) (Nat.le_refl _) (by simp) ?_; (case hd => rfl); (case hg => rfl); (case hr => first | (go_simp; done) | (go_simp; rfl)); (case hp => exact (Reps.one (show Kd.M (Kd.int .u8) _ _ _ a1 [.int .u8 a1] from rfl) (Reps.none _ _))); intro v328 w4 ho5 hb hg_ hnew_; clear hg_ hnew_; (first | rw [← Ny327.out] at ho5 | (simp only [Int.reduceToNat] at ho5; rw [← Ny327.out] at ho5)); have n0_ := aK (Kd.R_lower ho5 (bSz (by repeat (first | (with_reducible first | exact HB.out | apply bAl | apply pbD | apply bD1) | exact HB.out)))); have n1_ := aK (bSp (by repeat (first | (with_reducible first | exact HB.out | apply bAl | apply pbD | apply bD1) | exact HB.out)) hb); clear HB; have HO329 := n0_; have HB := n1_; clear n0_ n1_; clear hb ho5; have hcv6 := own_string (P := Tryz.prog) Tryz.underlying86 Tryz.underlying5 Tryz.underlying9 (Kd.own_of_R HO329.out)) | ((with_reducible refine gate_callee (f := 56) rfl ?_); refine goesL_ (some 9) rfl rfl Tryz.func56 (by kernel_rfl) rfl #[.slice A0 l0.length c0, .int .i64 7, .string (strOfNums y327)] rfl (by (try simp only [qM0, qM1, qM2]); first | done | rfl | (simp only [qD0, qD1]; rfl)) ?_; (with_reducible refine (r8_Of.calls k _ _ l0 7 (strOfNums y327) t330 _ ?side1 ?side2 A3.out).mono ?_); (case side1 => repeat (first | exact (Kd.C_below HR0.out HB.out) | (with_reducible refine Kd.C_alloc ?_ _) | (with_reducible refine Kd.C_drewN ?_ _) | (with_reducible refine Kd.C_drew ?_))); (case side2 => exact HC0.out); rintro e w' ⟨rfl, ⟨nd, rfl⟩⟩; refine ⟨_, rfl, ?_⟩))
 go_ret
 exact ⟨by first | rfl | (simp [eWn, eWs] <;> rfl) | (simp [*, eWn, eWs] <;> rfl), by repeat (first | (with_reducible first | exact HB.out | apply bAl | apply pbD | apply bD1) | exact HB.out)⟩
def r2_Dots.l0 : Nat → Int → ByteArray → Int → Option (ByteArray)
 | 0, _, _, _ => none
 | k + 1, x0, x3, x4 => if x4 ≤ 6 then ((r2_weight.f k x4).bind fun t331 => (if t331 = 0 then (none) else (if (Int.tmod (wrap64 (Int.tdiv (wrap64 (x0)) t331)) 2) = 1 then ((some (([(wrap64 (48 + x4)) % 256] : List Int) : List Int)).bind fun y332 => (if x3.size + (strOfNums y332).size ≤ 9223372036854775807 then (r2_Dots.l0 k x0 (x3 ++ (strOfNums y332)) (wrap64 (x4 + 1))) else (none))) else (r2_Dots.l0 k x0 x3 (wrap64 (x4 + 1)))))) else (some x3)
def r2_Dots.f (k : Nat) (a0 : Int) : Option (ByteArray) := r2_Dots.l0 k a0 (⟨#[]⟩ : ByteArray) 1
theorem r2_Dots.mono_l : ∀ k, (∀ y0 y1 y2, LeO (r2_Dots.l0 k y0 y1 y2) (r2_Dots.l0 (k + 1) y0 y1 y2))
 | 0 => fun _ _ _ r h => by simp [r2_Dots.l0] at h
 | k + 1 => by
  have ih0 := r2_Dots.mono_l k
  ·
   intro y0 y1 y2
   unfold r2_Dots.l0
   repeat' first
   | (with_reducible exact ih0 _ _ _)
   | (with_reducible exact r2_weight.mono _ _)
   | (with_reducible exact LeO.refl _)
   | (with_reducible exact LeO.none _)
   | (with_reducible refine LeO.ite ?_ ?_)
   | (with_reducible refine LeO.bind ?_ (fun _ => ?_))
   | exact ih0 _ _ _
   | exact r2_weight.mono _ _
   | exact LeO.none _
   | refine LeO.ite ?_ ?_
   | refine LeO.bind ?_ (fun _ => ?_)
theorem r2_Dots.mono : ∀ a0 k, LeO (r2_Dots.f k a0) (r2_Dots.f (k + 1) a0) := by
 intro a0 k
 have ih0 := r2_Dots.mono_l k
 unfold r2_Dots.f
 repeat' first
   | (with_reducible exact ih0 _ _ _)
   | (with_reducible exact r2_weight.mono _ _)
   | (with_reducible exact LeO.refl _)
   | (with_reducible exact LeO.none _)
   | (with_reducible refine LeO.ite ?_ ?_)
   | (with_reducible refine LeO.bind ?_ (fun _ => ?_))
   | exact ih0 _ _ _
   | exact r2_weight.mono _ _
   | exact LeO.none _
   | refine LeO.ite ?_ ?_
   | refine LeO.bind ?_ (fun _ => ?_)
set_option maxHeartbeats 8000000 in
set_option maxRecDepth 100000 in
theorem r2_Dots.calls (k : Nat) (a0 : Int) (r : ByteArray) (w : World) (h : r2_Dots.f k a0 = some r) :
  Calls Tryz.prog 85 #[.int .u8 a0] w fun e w' => e = .returned (.string r) ∧ Below w.heap.size w w' := by
 have HB := aK (Below.refl w.heap.size w)
 have H : (r2_Dots.l0 k a0 (⟨#[]⟩ : ByteArray) 1) = some r := h
 clear h
 have H' := aK H
 clear H
 go_enter Tryz.func85, Tryz.ntmps85
 go_wp2
 go_loopg [3, 4] k (fun kq v3 v4 w' => ∃ (x3_1 : ByteArray) (x4_1 : Int), v3 = .string x3_1 ∧ v4 = .int .i64 x4_1 ∧ Aside0 (r2_Dots.l0 kq a0 x3_1 x4_1 = some r) ∧ Aside0 (kq ≤ k) ∧ Aside0 (Below w.heap.size w w'))
 case atStart => exact ⟨((⟨#[]⟩ : ByteArray)), (1), (by first | rfl | (simp; done) | (simp [*]; done)), (by first | rfl | (simp; done) | (simp [*]; done)), H', ⟨Nat.le_refl _⟩, ⟨by repeat (first | (with_reducible first | exact HB.out | apply bAl | apply pbD | apply bD1) | exact HB.out)⟩⟩
 case round =>
  clear H'
  obtain ⟨x3_1, x4_1, rfl, rfl, HA, HK1, HB⟩ := hrel
  cases gk with
  | zero => exact absurd HA.out (by simp [r2_Dots.l0])
  | succ k1 =>
   have H := HA.out
   clear HA
   simp only [r2_Dots.l0] at H
   by_cases c2 : x4_1 ≤ 6
   ·
    rw [if_pos c2] at H
    have c2b0 : decide (x4_1 ≤ 6) = true := decide_eq_true c2
    clear c2
    replace H := oB H
    obtain ⟨t331, A30, H⟩ := H
    try dsimp only at H
    have A3 := aK A30
    clear A30
    by_cases c4 : t331 = 0
    ·
     rw [if_pos c4] at H
     exact absurd H (by simp)
    ·
     rw [if_neg c4] at H
     have c4b0 : (t331 == 0) = false := beq_eq_false_iff_ne.mpr c4
     have c4b1 : (t331 != 0) = true := bne_iff_ne.mpr c4
     by_cases c5 : (Int.tmod (wrap64 (Int.tdiv (wrap64 (a0)) t331)) 2) = 1
     ·
      rw [if_pos c5] at H
      have c5b0 : ((Int.tmod (wrap64 (Int.tdiv (wrap64 (a0)) t331)) 2) == 1) = true := beq_iff_eq.mpr c5
      have c5b1 : ((Int.tmod (wrap64 (Int.tdiv (wrap64 (a0)) t331)) 2) != 1) = false := bne_eq_false_iff_eq.mpr c5
      clear c5
      obtain ⟨y332, hy332⟩ : ∃ y_ : List Int, y_ = (([(wrap64 (48 + x4_1)) % 256] : List Int)) := ⟨_, rfl⟩
      replace H : (if x3_1.size + (strOfNums y332).size ≤ 9223372036854775807 then (r2_Dots.l0 k1 a0 (x3_1 ++ (strOfNums y332)) (wrap64 (x4_1 + 1))) else (none)) = some r := by first | (rw [hy332]; with_reducible exact H) | (have H2_ := (Option.bind_some _ _).symm.trans H; rw [hy332]; with_reducible exact H2_) | (have H2_ := (Option.bind_some _ _).symm.trans H; with_reducible exact H2_) | with_reducible exact H | (rw [hy332]; exact H) | exact H
      have Ny332 := aK hy332
      clear hy332
      by_cases c6 : x3_1.size + (strOfNums y332).size ≤ 9223372036854775807
      ·
       rw [if_pos c6] at H
       have c6b0 := eq_true c6
       have c6b1 : decide (x3_1.size + (strOfNums y332).size ≤ 9223372036854775807) = true := decide_eq_true c6
       try have c6b2 : (9223372036854775807 < x3_1.size + (strOfNums y332).size) = False := eq_false (Nat.not_lt.2 c6)
       have H' := aK H
       clear H
       go_wp2_with (first | ((with_reducible refine gate_callee (f := 116) rfl ?_); refine goesL_ (some 12) rfl rfl Tryz.func116 (by kernel_rfl) rfl #[.int .i64 x4_1] rfl (by (try simp only [qM0, qM1, qM2]); first | done | rfl | (simp only [qD0, qD1]; rfl)) ?_; (with_reducible refine (r2_weight.calls k1 x4_1 t331 _ A3.out).mono ?_); rintro e w' ⟨rfl, ⟨nd, rfl⟩⟩; refine ⟨_, rfl, ?_⟩) | ((with_reducible refine gate_dst (N := 20) rfl ?_); refine Kd.R_lit (Kd.int .u8) _ 5 ?hg (N := 20) ?hd (xs := ([(wrap64 (48 + x4_1)) % 256] : List Int)) (inner := [.int .u8 ((wrap64 (48 + x4_1)) % 256)]) (ok := fun _ => True) (okp := fun _ => True) ?hr ?hp (fun _ hk => hk) trivial (Below.refl _ _) (Nat.le_refl _) (by simp) ?_; (case hd => rfl); (case hg => rfl); (case hr => first | (go_simp; done) | (go_simp; rfl)); (case hp => exact (Reps.one (show Kd.M (Kd.int .u8) _ _ _ ((wrap64 (48 + x4_1)) % 256) [.int .u8 ((wrap64 (48 + x4_1)) % 256)] from rfl) (Reps.none _ _))); intro v333 w7 ho8 hb hg_ hnew_; clear hg_ hnew_; (first | rw [← Ny332.out] at ho8 | (simp only [Int.reduceToNat] at ho8; rw [← Ny332.out] at ho8)); have n0_ := aK (Kd.R_lower ho8 (bSz (by repeat (first | (with_reducible first | exact HB.out | apply bAl | apply pbD | apply bD1) | exact HB.out)))); have n1_ := aK (bSp (by repeat (first | (with_reducible first | exact HB.out | apply bAl | apply pbD | apply bD1) | exact HB.out)) hb); clear HB; have HO334 := n0_; have HB := n1_; clear n0_ n1_; clear hb ho8; have hcv9 := own_string (P := Tryz.prog) Tryz.underlying86 Tryz.underlying5 Tryz.underlying9 (Kd.own_of_R HO334.out)))
       go_roundg k1
       case measure => have := HK1.out; omega
       case rel => exact ⟨(x3_1 ++ (strOfNums y332)), (wrap64 (x4_1 + 1)), (by first | rfl | (simp; done) | (simp [*]; done)), (by first | rfl | (simp; done) | (simp [*]; done)), H', ⟨by have := HK1.out; omega⟩, ⟨by repeat (first | (with_reducible first | exact HB.out | apply bAl | apply pbD | apply bD1) | exact HB.out)⟩⟩
      ·
       rw [if_neg c6] at H
       exact absurd H (by simp)
     ·
      rw [if_neg c5] at H
      have c5b0 : ((Int.tmod (wrap64 (Int.tdiv (wrap64 (a0)) t331)) 2) == 1) = false := beq_eq_false_iff_ne.mpr c5
      have c5b1 : ((Int.tmod (wrap64 (Int.tdiv (wrap64 (a0)) t331)) 2) != 1) = true := bne_iff_ne.mpr c5
      have H' := aK H
      clear H
      go_wp2_with (first | ((with_reducible refine gate_callee (f := 116) rfl ?_); refine goesL_ (some 12) rfl rfl Tryz.func116 (by kernel_rfl) rfl #[.int .i64 x4_1] rfl (by (try simp only [qM0, qM1, qM2]); first | done | rfl | (simp only [qD0, qD1]; rfl)) ?_; (with_reducible refine (r2_weight.calls k1 x4_1 t331 _ A3.out).mono ?_); rintro e w' ⟨rfl, ⟨nd, rfl⟩⟩; refine ⟨_, rfl, ?_⟩))
      go_roundg k1
      case measure => have := HK1.out; omega
      case rel => exact ⟨(x3_1), (wrap64 (x4_1 + 1)), (by first | rfl | (simp; done) | (simp [*]; done)), (by first | rfl | (simp; done) | (simp [*]; done)), H', ⟨by have := HK1.out; omega⟩, ⟨by repeat (first | (with_reducible first | exact HB.out | apply bAl | apply pbD | apply bD1) | exact HB.out)⟩⟩
   ·
    rw [if_neg c2] at H
    have c2b0 : decide (x4_1 ≤ 6) = false := decide_eq_false c2
    clear c2
    obtain rfl := oI H
    go_wp2
    go_ret
    exact ⟨by first | rfl | (simp [eWn, eWs] <;> rfl) | (simp [*, eWn, eWs] <;> rfl), by repeat (first | (with_reducible first | exact HB.out | apply bAl | apply pbD | apply bD1) | exact HB.out)⟩
mutual
def r2_Print.j0 : Nat → ByteArray → Bool → Option (ByteArray × Int)
 | 0, _, _ => none
 | k + 1, x0, x13 => if x13 = true then (some ((⟨#[]⟩ : ByteArray), 1)) else (r2_Print.l0 k x0 (⟨#[]⟩ : ByteArray) 0)
def r2_Print.l0 : Nat → ByteArray → ByteArray → Int → Option (ByteArray × Int)
 | 0, _, _, _ => none
 | k + 1, x0, x4, x5 => if x5 < (x0.size : Int) then (if 0 ≤ x5 then (if (bt x0 x5) = 0 then (r2_Print.j2 k x0 x4 x5 true) else (r2_Print.j2 k x0 x4 x5 (decide ((bt x0 x5) > 63)))) else (none)) else (some (x4, 0))
def r2_Print.j2 : Nat → ByteArray → ByteArray → Int → Bool → Option (ByteArray × Int)
 | 0, _, _, _, _ => none
 | k + 1, x0, x4, x5, x29 => if x29 = true then (some ((⟨#[]⟩ : ByteArray), 1)) else (if x5 > 0 then (if x4.size + 1 ≤ 9223372036854775807 then (if 0 ≤ x5 then (if x5 < (x0.size : Int) then ((r2_Dots.f k (bt x0 x5)).bind fun t335 => (if (x4 ++ (⟨#[45]⟩ : ByteArray)).size + t335.size ≤ 9223372036854775807 then (r2_Print.l0 k x0 ((x4 ++ (⟨#[45]⟩ : ByteArray)) ++ t335) (wrap64 (x5 + 1))) else (none))) else (none)) else (none)) else (none)) else (if 0 ≤ x5 then (if x5 < (x0.size : Int) then ((r2_Dots.f k (bt x0 x5)).bind fun t336 => (if x4.size + t336.size ≤ 9223372036854775807 then (r2_Print.l0 k x0 (x4 ++ t336) (wrap64 (x5 + 1))) else (none))) else (none)) else (none)))
end
def r2_Print.f (k : Nat) (a0 : ByteArray) : Option (ByteArray × Int) := if (a0.size : Int) = 0 then (r2_Print.j0 k a0 true) else (r2_Print.j0 k a0 (decide ((a0.size : Int) > 4)))
theorem r2_Print.mono_l : ∀ k, (∀ y0 y1, LeO (r2_Print.j0 k y0 y1) (r2_Print.j0 (k + 1) y0 y1)) ∧ (∀ y0 y1 y2, LeO (r2_Print.l0 k y0 y1 y2) (r2_Print.l0 (k + 1) y0 y1 y2)) ∧ (∀ y0 y1 y2 y3, LeO (r2_Print.j2 k y0 y1 y2 y3) (r2_Print.j2 (k + 1) y0 y1 y2 y3))
 | 0 => ⟨fun _ _ r h => by simp [r2_Print.j0] at h, fun _ _ _ r h => by simp [r2_Print.l0] at h, fun _ _ _ _ r h => by simp [r2_Print.j2] at h⟩
 | k + 1 => by
  obtain ⟨ih0, ih1, ih2⟩ := r2_Print.mono_l k
  refine ⟨?_, ?_, ?_⟩
  ·
   intro y0 y1
   unfold r2_Print.j0
   repeat' first
   | (with_reducible exact ih0 _ _)
   | (with_reducible exact ih1 _ _ _)
   | (with_reducible exact ih2 _ _ _ _)
   | (with_reducible exact r2_Dots.mono _ _)
   | (with_reducible exact LeO.refl _)
   | (with_reducible exact LeO.none _)
   | (with_reducible refine LeO.ite ?_ ?_)
   | (with_reducible refine LeO.bind ?_ (fun _ => ?_))
   | exact ih0 _ _
   | exact ih1 _ _ _
   | exact ih2 _ _ _ _
   | exact r2_Dots.mono _ _
   | exact LeO.none _
   | refine LeO.ite ?_ ?_
   | refine LeO.bind ?_ (fun _ => ?_)
  ·
   intro y0 y1 y2
   unfold r2_Print.l0
   repeat' first
   | (with_reducible exact ih0 _ _)
   | (with_reducible exact ih1 _ _ _)
   | (with_reducible exact ih2 _ _ _ _)
   | (with_reducible exact r2_Dots.mono _ _)
   | (with_reducible exact LeO.refl _)
   | (with_reducible exact LeO.none _)
   | (with_reducible refine LeO.ite ?_ ?_)
   | (with_reducible refine LeO.bind ?_ (fun _ => ?_))
   | exact ih0 _ _
   | exact ih1 _ _ _
   | exact ih2 _ _ _ _
   | exact r2_Dots.mono _ _
   | exact LeO.none _
   | refine LeO.ite ?_ ?_
   | refine LeO.bind ?_ (fun _ => ?_)
  ·
   intro y0 y1 y2 y3
   unfold r2_Print.j2
   repeat' first
   | (with_reducible exact ih0 _ _)
   | (with_reducible exact ih1 _ _ _)
   | (with_reducible exact ih2 _ _ _ _)
   | (with_reducible exact r2_Dots.mono _ _)
   | (with_reducible exact LeO.refl _)
   | (with_reducible exact LeO.none _)
   | (with_reducible refine LeO.ite ?_ ?_)
   | (with_reducible refine LeO.bind ?_ (fun _ => ?_))
   | exact ih0 _ _
   | exact ih1 _ _ _
   | exact ih2 _ _ _ _
   | exact r2_Dots.mono _ _
   | exact LeO.none _
   | refine LeO.ite ?_ ?_
   | refine LeO.bind ?_ (fun _ => ?_)
theorem r2_Print.mono : ∀ a0 k, LeO (r2_Print.f k a0) (r2_Print.f (k + 1) a0) := by
 intro a0 k
 obtain ⟨ih0, ih1, ih2⟩ := r2_Print.mono_l k
 unfold r2_Print.f
 repeat' first
   | (with_reducible exact ih0 _ _)
   | (with_reducible exact ih1 _ _ _)
   | (with_reducible exact ih2 _ _ _ _)
   | (with_reducible exact r2_Dots.mono _ _)
   | (with_reducible exact LeO.refl _)
   | (with_reducible exact LeO.none _)
   | (with_reducible refine LeO.ite ?_ ?_)
   | (with_reducible refine LeO.bind ?_ (fun _ => ?_))
   | exact ih0 _ _
   | exact ih1 _ _ _
   | exact ih2 _ _ _ _
   | exact r2_Dots.mono _ _
   | exact LeO.none _
   | refine LeO.ite ?_ ?_
   | refine LeO.bind ?_ (fun _ => ?_)
set_option maxHeartbeats 8000000 in
set_option maxRecDepth 100000 in
theorem r2_Print.calls (k : Nat) (a0 : ByteArray) (r1 : ByteArray) (r2 : Int) (w : World) (h : r2_Print.f k a0 = some (r1, r2)) :
  Calls Tryz.prog 53 #[.string a0] w fun e w' => e = .returned (.tuple #[.string r1, .int .i64 r2]) ∧ Below w.heap.size w w' := by
 have HB := aK (Below.refl w.heap.size w)
 have H : (if (a0.size : Int) = 0 then (r2_Print.j0 k a0 true) else (r2_Print.j0 k a0 (decide ((a0.size : Int) > 4)))) = some (r1, r2) := h
 clear h
 have HC2 := aK H
 clear H
 go_enter Tryz.func53, Tryz.ntmps53
 go_upto_region 1 with (fail)
 go_cut [13] (fun v13 wc => ∃ (kq : Nat) (x13_1 : Bool), v13 = .bool x13_1 ∧ Aside0 (r2_Print.j0 kq a0 x13_1 = some (r1, r2)) ∧ Aside0 (kq ≤ k) ∧ Aside0 (Below w.heap.size w wc))
 case first =>
  have H := HC2.out
  clear HC2
  by_cases c3 : (a0.size : Int) = 0
  ·
   rw [if_pos c3] at H
   have c3b0 : ((a0.size : Int) == 0) = true := beq_iff_eq.mpr c3
   have c3b1 : ((a0.size : Int) != 0) = false := bne_eq_false_iff_eq.mpr c3
   clear c3
   (first | rw [c3b0] | (simp only [i64_w, i32_w]; rw [c3b0]) | skip)
   have H' := aK H
   clear H
   go_wp2
   go_meet
   case rel => exact ⟨_, (true), (by first | rfl | (simp; done) | (simp [*]; done)), H', ⟨by first | omega | exact Nat.le_refl _⟩, ⟨by repeat (first | (with_reducible first | exact HB.out | apply bAl | apply pbD | apply bD1) | exact HB.out)⟩⟩
  ·
   rw [if_neg c3] at H
   have c3b0 : ((a0.size : Int) == 0) = false := beq_eq_false_iff_ne.mpr c3
   have c3b1 : ((a0.size : Int) != 0) = true := bne_iff_ne.mpr c3
   (first | rw [c3b0] | (simp only [i64_w, i32_w]; rw [c3b0]) | skip)
   have H' := aK H
   clear H
   go_wp2
   go_meet
   case rel => exact ⟨_, (decide ((a0.size : Int) > 4)), (by first | rfl | (simp; done) | (simp [*]; done)), H', ⟨by first | omega | exact Nat.le_refl _⟩, ⟨by repeat (first | (with_reducible first | exact HB.out | apply bAl | apply pbD | apply bD1) | exact HB.out)⟩⟩
 case rest =>
  clear HC2
  try clear p2
  try clear c3
  try clear c3b0
  try clear c3b1
  obtain ⟨kq, x13_1, rfl, HA, HJ1, HB⟩ := hcut
  cases kq with
  | zero => exact absurd HA.out (by simp [r2_Print.j0])
  | succ kj1 =>
   have H := HA.out
   clear HA
   simp only [r2_Print.j0] at H
   by_cases c4 : x13_1 = true
   ·
    subst c4
    have H1 : (some ((⟨#[]⟩ : ByteArray), 1)) = some (r1, r2) := by rw [if_pos rfl] at H; exact H
    clear H
    have H := H1
    clear H1
    simp only [Option.some.injEq, Prod.mk.injEq] at H
    obtain ⟨rfl, rfl⟩ := H
    go_wp2
    go_ret2
    exact ⟨by first | rfl | (simp [eWn, eWs] <;> rfl) | (simp [*, eWn, eWs] <;> rfl), by repeat (first | (with_reducible first | exact HB.out | apply bAl | apply pbD | apply bD1) | exact HB.out)⟩
   ·
    replace c4 := Bool.eq_false_iff.mpr c4
    subst c4
    have H1 : (r2_Print.l0 kj1 a0 (⟨#[]⟩ : ByteArray) 0) = some (r1, r2) := by rw [if_neg (show ¬ (false = true) by decide)] at H; exact H
    clear H
    have H := H1
    clear H1
    have H' := aK H
    clear H
    go_wp2
    go_loopg [4, 5] kj1 (fun kq v4 v5 w' => ∃ (x4_2 : ByteArray) (x5_2 : Int), v4 = .string x4_2 ∧ v5 = .int .i64 x5_2 ∧ Aside0 (r2_Print.l0 kq a0 x4_2 x5_2 = some (r1, r2)) ∧ Aside0 (kq ≤ kj1) ∧ Aside0 (Below w.heap.size w w'))
    case atStart => exact ⟨((⟨#[]⟩ : ByteArray)), (0), (by first | rfl | (simp; done) | (simp [*]; done)), (by first | rfl | (simp; done) | (simp [*]; done)), H', ⟨Nat.le_refl _⟩, ⟨by repeat (first | (with_reducible first | exact HB.out | apply bAl | apply pbD | apply bD1) | exact HB.out)⟩⟩
    case round =>
     clear H'
     try clear p2
     try clear c3
     try clear c3b0
     try clear c3b1
     try clear c4
     try clear p2
     obtain ⟨x4_2, x5_2, rfl, rfl, HA, HK2, HB⟩ := hrel
     cases gk with
     | zero => exact absurd HA.out (by simp [r2_Print.l0])
     | succ k2 =>
      have H := HA.out
      clear HA
      simp only [r2_Print.l0] at H
      by_cases c5 : x5_2 < (a0.size : Int)
      ·
       rw [if_pos c5] at H
       have c5b0 : decide (x5_2 < (a0.size : Int)) = true := decide_eq_true c5
       clear c5
       have HC6 := aK H
       clear H
       go_upto_region 7 with (fail)
       go_cut [29] (fun v29 wc => ∃ (kq : Nat) (x29_5 : Bool), v29 = .bool x29_5 ∧ Aside0 (r2_Print.j2 kq a0 x4_2 x5_2 x29_5 = some (r1, r2)) ∧ Aside0 (kq ≤ k2) ∧ Aside0 (Below w.heap.size w wc))
       case first =>
        have H := HC6.out
        clear HC6
        by_cases c7 : 0 ≤ x5_2
        ·
         rw [if_pos c7] at H
         have c7b0 : decide (0 ≤ x5_2) = true := decide_eq_true c7
         clear c7
         (first | rw [c7b0] | (simp only [i64_w, i32_w]; rw [c7b0]) | skip)
         by_cases c9 : (bt a0 x5_2) = 0
         ·
          rw [if_pos c9] at H
          have c9b0 : ((bt a0 x5_2) == 0) = true := beq_iff_eq.mpr c9
          have c9b1 : ((bt a0 x5_2) != 0) = false := bne_eq_false_iff_eq.mpr c9
          clear c9
          have H' := aK H
          clear H
          have p8 : 0 ≤ (x5_2 : Int) := odT (by first | (with_reducible assumption) | assumption)
          have q8 : x5_2 < (a0.size : Int) := odT (by first | (with_reducible assumption) | assumption)
          have hx8 := bt_at a0 x5_2
          replace p8 := eq_true p8
          replace q8 := eq_true q8
          go_wp2
          go_meet
          case rel => exact ⟨_, (true), (by first | rfl | (simp; done) | (simp [*]; done)), H', ⟨by have := HJ1.out; have := HK2.out; first | omega | exact Nat.le_refl _⟩, ⟨by repeat (first | (with_reducible first | exact HB.out | apply bAl | apply pbD | apply bD1) | exact HB.out)⟩⟩
         ·
          rw [if_neg c9] at H
          have c9b0 : ((bt a0 x5_2) == 0) = false := beq_eq_false_iff_ne.mpr c9
          have c9b1 : ((bt a0 x5_2) != 0) = true := bne_iff_ne.mpr c9
          have H' := aK H
          clear H
          have p8 : 0 ≤ (x5_2 : Int) := odT (by first | (with_reducible assumption) | assumption)
          have q8 : x5_2 < (a0.size : Int) := odT (by first | (with_reducible assumption) | assumption)
          have hx8 := bt_at a0 x5_2
          replace p8 := eq_true p8
          replace q8 := eq_true q8
          have p10 : 0 ≤ (x5_2 : Int) := odT (by first | (with_reducible assumption) | assumption)
          have q10 : x5_2 < (a0.size : Int) := odT (by first | (with_reducible assumption) | assumption)
          have hx10 := bt_at a0 x5_2
          replace p10 := eq_true p10
          replace q10 := eq_true q10
          go_wp2
          go_meet
          case rel => exact ⟨_, (decide ((bt a0 x5_2) > 63)), (by first | rfl | (simp; done) | (simp [*]; done)), H', ⟨by have := HJ1.out; have := HK2.out; first | omega | exact Nat.le_refl _⟩, ⟨by repeat (first | (with_reducible first | exact HB.out | apply bAl | apply pbD | apply bD1) | exact HB.out)⟩⟩
        ·
         rw [if_neg c7] at H
         exact absurd H (by simp)
       case rest =>
        clear HC6
        try clear p1
        try clear q1
        try clear hx1
        try clear p2
        try clear c3
        try clear c3b0
        try clear c3b1
        try clear c4
        try clear c5
        try clear c5b0
        try clear c7
        try clear c7b0
        try clear p8
        try clear q8
        try clear hx8
        try clear c9
        try clear c9b0
        try clear c9b1
        try clear p10
        try clear q10
        try clear hx10
        try clear p10
        try clear p2
        try clear p8
        try clear q10
        try clear q8
        obtain ⟨kq, x29_5, rfl, HA, HJ5, HB⟩ := hcut
        cases kq with
        | zero => exact absurd HA.out (by simp [r2_Print.j2])
        | succ kj5 =>
         have H := HA.out
         clear HA
         simp only [r2_Print.j2] at H
         by_cases c11 : x29_5 = true
         ·
          subst c11
          have H1 : (some ((⟨#[]⟩ : ByteArray), 1)) = some (r1, r2) := by rw [if_pos rfl] at H; exact H
          clear H
          have H := H1
          clear H1
          simp only [Option.some.injEq, Prod.mk.injEq] at H
          obtain ⟨rfl, rfl⟩ := H
          go_wp2
          go_ret2
          exact ⟨by first | rfl | (simp [eWn, eWs] <;> rfl) | (simp [*, eWn, eWs] <;> rfl), by repeat (first | (with_reducible first | exact HB.out | apply bAl | apply pbD | apply bD1) | exact HB.out)⟩
         ·
          replace c11 := Bool.eq_false_iff.mpr c11
          subst c11
          have H1 : (if x5_2 > 0 then (if x4_2.size + 1 ≤ 9223372036854775807 then (if 0 ≤ x5_2 then (if x5_2 < (a0.size : Int) then ((r2_Dots.f kj5 (bt a0 x5_2)).bind fun t335 => (if (x4_2 ++ (⟨#[45]⟩ : ByteArray)).size + t335.size ≤ 9223372036854775807 then (r2_Print.l0 kj5 a0 ((x4_2 ++ (⟨#[45]⟩ : ByteArray)) ++ t335) (wrap64 (x5_2 + 1))) else (none))) else (none)) else (none)) else (none)) else (if 0 ≤ x5_2 then (if x5_2 < (a0.size : Int) then ((r2_Dots.f kj5 (bt a0 x5_2)).bind fun t336 => (if x4_2.size + t336.size ≤ 9223372036854775807 then (r2_Print.l0 kj5 a0 (x4_2 ++ t336) (wrap64 (x5_2 + 1))) else (none))) else (none)) else (none))) = some (r1, r2) := by rw [if_neg (show ¬ (false = true) by decide)] at H; exact H
          clear H
          have H := H1
          clear H1
          by_cases c12 : x5_2 > 0
          ·
           rw [if_pos c12] at H
           have c12b0 : decide (0 < x5_2) = true := decide_eq_true c12
           clear c12
           by_cases c13 : x4_2.size + 1 ≤ 9223372036854775807
           ·
            rw [if_pos c13] at H
            have c13b0 := eq_true c13
            have c13b1 : decide (x4_2.size + 1 ≤ 9223372036854775807) = true := decide_eq_true c13
            try have c13b2 : (9223372036854775807 < x4_2.size + 1) = False := eq_false (Nat.not_lt.2 c13)
            by_cases c14 : 0 ≤ x5_2
            ·
             rw [if_pos c14] at H
             have c14b0 : decide (0 ≤ x5_2) = true := decide_eq_true c14
             clear c14
             by_cases c15 : x5_2 < (a0.size : Int)
             ·
              rw [if_pos c15] at H
              have c15b0 : decide (x5_2 < (a0.size : Int)) = true := decide_eq_true c15
              clear c15
              replace H := oB H
              obtain ⟨t335, A170, H⟩ := H
              try dsimp only at H
              have A17 := aK A170
              clear A170
              by_cases c18 : (x4_2 ++ (⟨#[45]⟩ : ByteArray)).size + t335.size ≤ 9223372036854775807
              ·
               rw [if_pos c18] at H
               have c18b0 := eq_true c18
               have c18b1 : decide ((x4_2 ++ (⟨#[45]⟩ : ByteArray)).size + t335.size ≤ 9223372036854775807) = true := decide_eq_true c18
               try have c18b2 : (9223372036854775807 < (x4_2 ++ (⟨#[45]⟩ : ByteArray)).size + t335.size) = False := eq_false (Nat.not_lt.2 c18)
               try have c18b2r : (9223372036854775807 < x4_2.size + 1 + t335.size) = False := (by have h_ := c18; simp only [ByteArray.size_append] at h_; exact eq_false (Nat.not_lt.2 h_))
               have H' := aK H
               clear H
               have p16 : 0 ≤ (x5_2 : Int) := odT (by first | (with_reducible assumption) | assumption)
               have q16 : x5_2 < (a0.size : Int) := odT (by first | (with_reducible assumption) | assumption)
               have hx16 := bt_at a0 x5_2
               replace p16 := eq_true p16
               replace q16 := eq_true q16
               go_wp2_with (first | ((with_reducible refine gate_callee (f := 85) rfl ?_); refine goesL_ (some 38) rfl rfl Tryz.func85 (by kernel_rfl) rfl #[.int .u8 (bt a0 x5_2)] rfl (by (try simp only [qM0, qM1, qM2]); first | done | rfl | (simp only [qD0, qD1]; rfl)) ?_; (with_reducible refine (r2_Dots.calls kj5 (bt a0 x5_2) t335 _ A17.out).mono ?_); rintro e w19 ⟨rfl, hb⟩; refine ⟨_, rfl, ?_⟩; have n0_ := aK (bSp (by repeat (first | (with_reducible first | exact HB.out | apply bAl | apply pbD | apply bD1) | exact HB.out)) hb); clear HB; have HB := n0_; clear n0_; (try clear hb); (try clear hb2); (try clear hk); (try clear hi)))
               go_roundg kj5
               case measure => have := HJ1.out; have := HK2.out; have := HJ5.out; omega
               case rel => exact ⟨((x4_2 ++ (⟨#[45]⟩ : ByteArray)) ++ t335), (wrap64 (x5_2 + 1)), (by first | rfl | (simp; done) | (simp [*]; done)), (by first | rfl | (simp; done) | (simp [*]; done)), H', ⟨by have := HJ1.out; have := HK2.out; have := HJ5.out; omega⟩, ⟨by repeat (first | (with_reducible first | exact HB.out | apply bAl | apply pbD | apply bD1) | exact HB.out)⟩⟩
              ·
               rw [if_neg c18] at H
               exact absurd H (by simp)
             ·
              rw [if_neg c15] at H
              exact absurd H (by simp)
            ·
             rw [if_neg c14] at H
             exact absurd H (by simp)
           ·
            rw [if_neg c13] at H
            exact absurd H (by simp)
          ·
           rw [if_neg c12] at H
           have c12b0 : decide (0 < x5_2) = false := decide_eq_false c12
           clear c12
           by_cases c20 : 0 ≤ x5_2
           ·
            rw [if_pos c20] at H
            have c20b0 : decide (0 ≤ x5_2) = true := decide_eq_true c20
            clear c20
            by_cases c21 : x5_2 < (a0.size : Int)
            ·
             rw [if_pos c21] at H
             have c21b0 : decide (x5_2 < (a0.size : Int)) = true := decide_eq_true c21
             clear c21
             replace H := oB H
             obtain ⟨t336, A230, H⟩ := H
             try dsimp only at H
             have A23 := aK A230
             clear A230
             by_cases c24 : x4_2.size + t336.size ≤ 9223372036854775807
             ·
              rw [if_pos c24] at H
              have c24b0 := eq_true c24
              have c24b1 : decide (x4_2.size + t336.size ≤ 9223372036854775807) = true := decide_eq_true c24
              try have c24b2 : (9223372036854775807 < x4_2.size + t336.size) = False := eq_false (Nat.not_lt.2 c24)
              have H' := aK H
              clear H
              have p22 : 0 ≤ (x5_2 : Int) := odT (by first | (with_reducible assumption) | assumption)
              have q22 : x5_2 < (a0.size : Int) := odT (by first | (with_reducible assumption) | assumption)
              have hx22 := bt_at a0 x5_2
              replace p22 := eq_true p22
              replace q22 := eq_true q22
              go_wp2_with (first | ((with_reducible refine gate_callee (f := 85) rfl ?_); refine goesL_ (some 38) rfl rfl Tryz.func85 (by kernel_rfl) rfl #[.int .u8 (bt a0 x5_2)] rfl (by (try simp only [qM0, qM1, qM2]); first | done | rfl | (simp only [qD0, qD1]; rfl)) ?_; (with_reducible refine (r2_Dots.calls kj5 (bt a0 x5_2) t336 _ A23.out).mono ?_); rintro e w25 ⟨rfl, hb⟩; refine ⟨_, rfl, ?_⟩; have n0_ := aK (bSp (by repeat (first | (with_reducible first | exact HB.out | apply bAl | apply pbD | apply bD1) | exact HB.out)) hb); clear HB; have HB := n0_; clear n0_; (try clear hb); (try clear hb2); (try clear hk); (try clear hi)))
              go_roundg kj5
              case measure => have := HJ1.out; have := HK2.out; have := HJ5.out; omega
              case rel => exact ⟨(x4_2 ++ t336), (wrap64 (x5_2 + 1)), (by first | rfl | (simp; done) | (simp [*]; done)), (by first | rfl | (simp; done) | (simp [*]; done)), H', ⟨by have := HJ1.out; have := HK2.out; have := HJ5.out; omega⟩, ⟨by repeat (first | (with_reducible first | exact HB.out | apply bAl | apply pbD | apply bD1) | exact HB.out)⟩⟩
             ·
              rw [if_neg c24] at H
              exact absurd H (by simp)
            ·
             rw [if_neg c21] at H
             exact absurd H (by simp)
           ·
            rw [if_neg c20] at H
            exact absurd H (by simp)
      ·
       rw [if_neg c5] at H
       have c5b0 : decide (x5_2 < (a0.size : Int)) = false := decide_eq_false c5
       clear c5
       simp only [Option.some.injEq, Prod.mk.injEq] at H
       obtain ⟨rfl, rfl⟩ := H
       go_wp2
       go_ret2
       exact ⟨by first | rfl | (simp [eWn, eWs] <;> rfl) | (simp [*, eWn, eWs] <;> rfl), by repeat (first | (with_reducible first | exact HB.out | apply bAl | apply pbD | apply bD1) | exact HB.out)⟩
end Go.Proofs.YtgjkjoocnkdckaaGreatDoor.PChk
