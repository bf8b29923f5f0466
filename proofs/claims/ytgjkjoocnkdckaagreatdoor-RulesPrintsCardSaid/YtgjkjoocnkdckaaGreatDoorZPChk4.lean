-- Written by a program of this session (prt.py), out of the translation. Lean checks it.
import Derived.Test.YtgjkjoocnkdckaaGreatDoorZGRulOf
import Derived.Test.YtgjkjoocnkdckaaGreatDoorZPChk0
import Derived.Test.YtgjkjoocnkdckaaGreatDoorZPChk2
import Derived.Test.YtgjkjoocnkdckaaGreatDoorZPChk3
namespace Go.Proofs.YtgjkjoocnkdckaaGreatDoor.PChk
open Go.RowKit Go.Proofs.YtgjkjoocnkdckaaGreatDoor.G Go.Proofs.YtgjkjoocnkdckaaGreatDoorW.PrintWords Go.Proofs.YtgjkjoocnkdckaaGreatDoorW.PrintLast Go.Proofs.YtgjkjoocnkdckaaGreatDoorW.PrintMore
attribute [local go_sem] max2_int min2_int max_two min_two max_three min_three max_four min_four   -- for this text's walks alone
set_option linter.unusedVariables false
set_option linter.unusedSimpArgs false
def rules_Sign.f (l0 : List (S47)) (a1 : ByteArray) : Option (ByteArray) := (rules_of.f l0 8 a1).bind fun t130 => (some t130)
set_option maxHeartbeats 8000000 in
set_option maxRecDepth 100000 in
theorem rules_Sign.calls (A0 : Option Addr) (c0 : Nat) (l0 : List (S47)) (a1 : ByteArray) (r : ByteArray) (w : World) (hr0 : Kd.C k47 w A0 l0.length l0) (hc0 : l0.length ≤ c0) (h : rules_Sign.f l0 a1 = some r) :
  Calls Tryz.prog 22 #[.slice A0 l0.length c0, .string a1] w fun e w' => e = .returned (.string r) ∧ Below w.heap.size w w' := by
 have HR0 := aK hr0
 have HC0 := aK hc0
 clear hr0 hc0
 have HB := aK (Below.refl w.heap.size w)
 have H : ((rules_of.f l0 8 a1).bind fun t130 => (some t130)) = some r := h
 clear h
 replace H := oB H
 obtain ⟨t130, A30, H⟩ := H
 replace H : (some t130) = some r := H
 have A3 := aK A30
 clear A30
 obtain rfl := oI H
 go_enter Tryz.func22, Tryz.ntmps22
 go_wp2_with (first | ((with_reducible refine gate_callee (f := 55) rfl ?_); refine goesL_ (some 7) rfl rfl Tryz.func55 (by kernel_rfl) rfl #[.slice A0 l0.length c0, .int .i64 8, .string a1] rfl (by (try simp only [qM0, qM1, qM2]); first | done | rfl | (simp only [qD0, qD1]; rfl)) ?_; (with_reducible refine (rules_of.calls _ _ l0 8 a1 t130 _ ?side1 ?side2 A3.out).mono ?_); (case side1 => repeat (first | exact HR0.out | (with_reducible refine Kd.C_alloc ?_ _) | (with_reducible refine Kd.C_drewN ?_ _) | (with_reducible refine Kd.C_drew ?_))); (case side2 => exact HC0.out); rintro e w4 ⟨rfl, hb⟩; refine ⟨_, rfl, ?_⟩; have n0_ := aK (bSp (by repeat (first | (with_reducible first | exact HB.out | apply bAl | apply pbD | apply bD1) | exact HB.out)) hb); clear HB; have HB := n0_; clear n0_; (try clear hb); (try clear hb2); (try clear hk); (try clear hi)))
 go_ret
 exact ⟨by first | rfl | (simp [eWn, eWs] <;> rfl) | (simp [*, eWn, eWs] <;> rfl), by repeat (first | (with_reducible first | exact HB.out | apply bAl | apply pbD | apply bD1) | exact HB.out)⟩
def rules_Mark.f (l0 : List (S47)) (a1 : Int) : Option (ByteArray) := (rules_of.f l0 6 (strOfNums (([a1] : List Int)))).bind fun t134 => (some t134)
set_option maxHeartbeats 8000000 in
set_option maxRecDepth 100000 in
theorem rules_Mark.calls (A0 : Option Addr) (c0 : Nat) (l0 : List (S47)) (a1 : Int) (r : ByteArray) (w : World) (hr0 : Kd.C k47 w A0 l0.length l0) (hc0 : l0.length ≤ c0) (h : rules_Mark.f l0 a1 = some r) :
  Calls Tryz.prog 24 #[.slice A0 l0.length c0, .int .u8 a1] w fun e w' => e = .returned (.string r) ∧ Below w.heap.size w w' := by
 have HR0 := aK hr0
 have HC0 := aK hc0
 clear hr0 hc0
 have HB := aK (Below.refl w.heap.size w)
 have H : ((rules_of.f l0 6 (strOfNums (([a1] : List Int)))).bind fun t134 => (some t134)) = some r := h
 clear h
 obtain ⟨y131, hy131⟩ : ∃ y_ : List Int, y_ = (([a1] : List Int)) := ⟨_, rfl⟩
 replace H : ((rules_of.f l0 6 (strOfNums y131)).bind fun t134 => (some t134)) = some r := by first | (rw [hy131]; with_reducible exact H) | (have H2_ := (Option.bind_some _ _).symm.trans H; rw [hy131]; with_reducible exact H2_) | (have H2_ := (Option.bind_some _ _).symm.trans H; with_reducible exact H2_) | with_reducible exact H | (rw [hy131]; exact H) | exact H
 have Ny131 := aK hy131
 clear hy131
 replace H := oB H
 obtain ⟨t134, A30, H⟩ := H
 replace H : (some t134) = some r := H
 have A3 := aK A30
 clear A30
 obtain rfl := oI H
 go_enter Tryz.func24, Tryz.ntmps24
 go_wp2_with (first | ((with_reducible refine gate_dst (N := 7) rfl ?_); refine Kd.R_lit (Kd.int .u8) _ 5 ?hg (N := 7) ?hd (xs := ([a1] : List Int)) (inner := [.int .u8 a1]) (ok := fun _ => True) (okp := fun _ => True) ?hr ?hp (fun _ hk => hk) trivial (Below.refl _ _) (Nat.le_refl _) (by simp) ?_; (case hd => rfl); (case hg => rfl); (case hr => first | (go_simp; done) | (go_simp; rfl)); (case hp => exact (Reps.one (show Kd.M (Kd.int .u8) _ _ _ a1 [.int .u8 a1] from rfl) (Reps.none _ _))); intro v132 w4 ho5 hb hg_ hnew_; clear hg_ hnew_; (first | rw [← Ny131.out] at ho5 | (simp only [Int.reduceToNat] at ho5; rw [← Ny131.out] at ho5)); have n0_ := aK (Kd.R_lower ho5 (bSz (by repeat (first | (with_reducible first | exact HB.out | apply bAl | apply pbD | apply bD1) | exact HB.out)))); have n1_ := aK (bSp (by repeat (first | (with_reducible first | exact HB.out | apply bAl | apply pbD | apply bD1) | exact HB.out)) hb); clear HB; have HO133 := n0_; have HB := n1_; clear n0_ n1_; clear hb ho5; have hcv6 := own_string (P := Tryz.prog) Tryz.underlying86 Tryz.underlying5 Tryz.underlying9 (Kd.own_of_R HO133.out)) | ((with_reducible refine gate_callee (f := 55) rfl ?_); refine goesL_ (some 9) rfl rfl Tryz.func55 (by kernel_rfl) rfl #[.slice A0 l0.length c0, .int .i64 6, .string (strOfNums y131)] rfl (by (try simp only [qM0, qM1, qM2]); first | done | rfl | (simp only [qD0, qD1]; rfl)) ?_; (with_reducible refine (rules_of.calls _ _ l0 6 (strOfNums y131) t134 _ ?side1 ?side2 A3.out).mono ?_); (case side1 => repeat (first | exact (Kd.C_below HR0.out HB.out) | (with_reducible refine Kd.C_alloc ?_ _) | (with_reducible refine Kd.C_drewN ?_ _) | (with_reducible refine Kd.C_drew ?_))); (case side2 => exact HC0.out); rintro e w7 ⟨rfl, hb⟩; refine ⟨_, rfl, ?_⟩; have n0_ := aK (Kd.R_below (by (with_reducible repeat (first | apply Kd.R_alloc | apply Kd.R_drewN | apply Kd.R_drew)); exact HO133.out) hb); have n1_ := aK (bSp (by repeat (first | (with_reducible first | exact HB.out | apply bAl | apply pbD | apply bD1) | exact HB.out)) hb); clear HO133; clear HB; have HO133 := n0_; have HB := n1_; clear n0_ n1_; (try clear hb); (try clear hb2); (try clear hk); (try clear hi)))
 go_ret
 exact ⟨by first | rfl | (simp [eWn, eWs] <;> rfl) | (simp [*, eWn, eWs] <;> rfl), by repeat (first | (with_reducible first | exact HB.out | apply bAl | apply pbD | apply bD1) | exact HB.out)⟩
def w8_two.f  : Option ((List (S47))) := some (([(⟨1, (⟨#[97, 110, 100]⟩ : ByteArray), (⟨#[47]⟩ : ByteArray), 1, 1⟩ : S47), (⟨6, (⟨#[46]⟩ : ByteArray), (⟨#[50]⟩ : ByteArray), 0, 3⟩ : S47)] : List (S47)))
set_option maxHeartbeats 8000000 in
set_option maxRecDepth 100000 in
theorem w8_two.calls  (r : List (S47)) (w : World) (h : w8_two.f  = some r) :
  Calls Tryz.prog 42 #[] w fun e w' => ∃ v0_ : Value, e = .returned (v0_) ∧ Kd.R k47 47 w' w.heap.size (fun _ => True) v0_ r ∧ Below w.heap.size w w' := by
 have hu47 := Tryz.underlying47
 have HB := aK (Below.refl w.heap.size w)
 have H : (some (([(⟨1, (⟨#[97, 110, 100]⟩ : ByteArray), (⟨#[47]⟩ : ByteArray), 1, 1⟩ : S47), (⟨6, (⟨#[46]⟩ : ByteArray), (⟨#[50]⟩ : ByteArray), 0, 3⟩ : S47)] : List (S47)))) = some r := h
 clear h
 obtain ⟨y135, hy135⟩ : ∃ y_ : List (S47), y_ = (([(⟨1, (⟨#[97, 110, 100]⟩ : ByteArray), (⟨#[47]⟩ : ByteArray), 1, 1⟩ : S47), (⟨6, (⟨#[46]⟩ : ByteArray), (⟨#[50]⟩ : ByteArray), 0, 3⟩ : S47)] : List (S47))) := ⟨_, rfl⟩
 replace H : (some y135) = some r := by first | (rw [hy135]; with_reducible exact H) | (have H2_ := (Option.bind_some _ _).symm.trans H; rw [hy135]; with_reducible exact H2_) | (have H2_ := (Option.bind_some _ _).symm.trans H; with_reducible exact H2_) | with_reducible exact H | (rw [hy135]; exact H) | exact H
 have Ny135 := aK hy135
 clear hy135
 obtain rfl := oI H
 go_enter Tryz.func42, Tryz.ntmps42
 go_wp2_with (first | ((with_reducible refine gate_dst (N := 3) rfl ?_); refine Kd.R_lit k47 _ 47 ?hg (N := 3) ?hd (xs := ([(⟨1, (⟨#[97, 110, 100]⟩ : ByteArray), (⟨#[47]⟩ : ByteArray), 1, 1⟩ : S47), (⟨6, (⟨#[46]⟩ : ByteArray), (⟨#[50]⟩ : ByteArray), 0, 3⟩ : S47)] : List (S47))) (inner := [.int .i64 1, .string (⟨#[97, 110, 100]⟩ : ByteArray), .string (⟨#[47]⟩ : ByteArray), .int .i64 1, .int .i64 1, .int .i64 6, .string (⟨#[46]⟩ : ByteArray), .string (⟨#[50]⟩ : ByteArray), .int .i64 0, .int .i64 3]) (ok := fun _ => True) (okp := fun _ => True) ?hr ?hp (fun _ hk => hk) trivial (Below.refl _ _) (Nat.le_refl _) (by simp) ?_; (case hd => rfl); (case hg => rfl); (case hr => first | (go_simp; done) | (go_simp; rfl)); (case hp => exact (Reps.c5 (show Kd.M k47 _ _ _ (⟨1, (⟨#[97, 110, 100]⟩ : ByteArray), (⟨#[47]⟩ : ByteArray), 1, 1⟩ : S47) [.int .i64 1, .string (⟨#[97, 110, 100]⟩ : ByteArray), .string (⟨#[47]⟩ : ByteArray), .int .i64 1, .int .i64 1] from (k47_mkM _ _ _ (⟨1, (⟨#[97, 110, 100]⟩ : ByteArray), (⟨#[47]⟩ : ByteArray), 1, 1⟩ : S47) )) (Reps.c5 (show Kd.M k47 _ _ _ (⟨6, (⟨#[46]⟩ : ByteArray), (⟨#[50]⟩ : ByteArray), 0, 3⟩ : S47) [.int .i64 6, .string (⟨#[46]⟩ : ByteArray), .string (⟨#[50]⟩ : ByteArray), .int .i64 0, .int .i64 3] from (k47_mkM _ _ _ (⟨6, (⟨#[46]⟩ : ByteArray), (⟨#[50]⟩ : ByteArray), 0, 3⟩ : S47) )) (Reps.none _ _)))); intro v136 w1 ho2 hb hg_ hnew_; clear hg_ hnew_; (first | rw [← Ny135.out] at ho2 | (simp only [Int.reduceToNat] at ho2; rw [← Ny135.out] at ho2)); have n0_ := aK (Kd.R_lower ho2 (bSz (by repeat (first | (with_reducible first | exact HB.out | apply bAl | apply pbD | apply bD1) | exact HB.out)))); have n1_ := aK (bSp (by repeat (first | (with_reducible first | exact HB.out | apply bAl | apply pbD | apply bD1) | exact HB.out)) hb); clear HB; have HO137 := n0_; have HB := n1_; clear n0_ n1_; clear hb ho2))
 go_ret
 exact ⟨_, by first | rfl | (simp [eWn, eWs] <;> rfl) | (simp [*, eWn, eWs] <;> rfl), by (with_reducible repeat (first | apply Kd.R_alloc | apply Kd.R_drewN | apply Kd.R_drew)); exact HO137.out, by repeat (first | (with_reducible first | exact HB.out | apply bAl | apply pbD | apply bD1) | exact HB.out)⟩
def w8_awake.f (k : Nat)  : Option (Bool) := (rules_Parse.f (⟨#[97, 110, 121, 32, 97, 110, 100, 32, 49, 50, 51, 52, 54, 32, 49, 10, 35, 32, 120, 10, 109, 97, 114, 107, 32, 46, 32, 50, 53, 54]⟩ : ByteArray)).bind fun bt138 => ((rules_Parse.f (⟨#[97, 110, 121, 32, 97, 110, 100, 32, 49, 50, 51, 52, 54, 32, 49, 10, 119, 111, 114, 100, 32, 97]⟩ : ByteArray)).bind fun bt143 => ((w8_two.f).bind fun t148 => ((rules_Print.f t148).bind fun bt151 => ((w8_two.f).bind fun t153 => ((r8_Same.f k bt138.1 t153).bind fun t156 => (if t156 = true then (if bt138.2.1 = 0 then (if bt138.2.2 = 0 then (if bt143.2.1 = 2 then (if bt143.2.2 = 6 then (if bt151.1.toList = ([97, 110, 121, 32, 97, 110, 100, 32, 49, 50, 51, 52, 54, 32, 49, 10, 109, 97, 114, 107, 32, 46, 32, 50, 53, 54, 10] : List UInt8) then (if bt151.2 = 0 then ((w8_two.f).bind fun t157 => ((rules_Mark.f t157 46).bind fun t160 => (if t160.toList = ([50] : List UInt8) then ((w8_two.f).bind fun t161 => ((rules_Sign.f t161 (⟨#[99, 97, 112]⟩ : ByteArray)).bind fun t164 => (if t164.toList = ([] : List UInt8) then ((rules_Names.f).bind fun t165 => (some ((t165.length : Int) == 13))) else (some false)))) else (some false)))) else (some false)) else (some false)) else (some false)) else (some false)) else (some false)) else (some false)) else (some false)))))))
theorem w8_awake.mono : ∀ k, LeO (w8_awake.f k ) (w8_awake.f (k + 1) ) := by
 intro  k
 unfold w8_awake.f
 repeat' first
   | (with_reducible exact r8_Same.mono _ _ _)
   | (with_reducible exact LeO.refl _)
   | (with_reducible exact LeO.none _)
   | (with_reducible refine LeO.ite ?_ ?_)
   | (with_reducible refine LeO.bind ?_ (fun _ => ?_))
   | exact r8_Same.mono _ _ _
   | exact LeO.none _
   | refine LeO.ite ?_ ?_
   | refine LeO.bind ?_ (fun _ => ?_)
theorem w8_awake.only (k : Nat) (r : Bool) (h : w8_awake.f k = some r) : r = true := by
 have h2 : w8_awake.f 200 = some true := by decide +kernel
 have h3 := at_rounds (g := w8_awake.f) w8_awake.mono (Nat.le_max_right k 200) h2
 have h4 := at_rounds (g := w8_awake.f) w8_awake.mono (Nat.le_max_left k 200) h
 rw [h3] at h4
 exact (oI h4).symm
set_option maxHeartbeats 8000000 in
set_option maxRecDepth 100000 in
theorem w8_awake.calls (k : Nat)  (r : Bool) (w : World) (h : w8_awake.f k  = some r) :
  Calls Tryz.prog 13 #[] w fun e w' => e = .returned (.bool r) ∧ Below w.heap.size w w' := by
 have HB := aK (Below.refl w.heap.size w)
 have H : ((rules_Parse.f (⟨#[97, 110, 121, 32, 97, 110, 100, 32, 49, 50, 51, 52, 54, 32, 49, 10, 35, 32, 120, 10, 109, 97, 114, 107, 32, 46, 32, 50, 53, 54]⟩ : ByteArray)).bind fun bt138 => ((rules_Parse.f (⟨#[97, 110, 121, 32, 97, 110, 100, 32, 49, 50, 51, 52, 54, 32, 49, 10, 119, 111, 114, 100, 32, 97]⟩ : ByteArray)).bind fun bt143 => ((w8_two.f).bind fun t148 => ((rules_Print.f t148).bind fun bt151 => ((w8_two.f).bind fun t153 => ((r8_Same.f k bt138.1 t153).bind fun t156 => (if t156 = true then (if bt138.2.1 = 0 then (if bt138.2.2 = 0 then (if bt143.2.1 = 2 then (if bt143.2.2 = 6 then (if bt151.1.toList = ([97, 110, 121, 32, 97, 110, 100, 32, 49, 50, 51, 52, 54, 32, 49, 10, 109, 97, 114, 107, 32, 46, 32, 50, 53, 54, 10] : List UInt8) then (if bt151.2 = 0 then ((w8_two.f).bind fun t157 => ((rules_Mark.f t157 46).bind fun t160 => (if t160.toList = ([50] : List UInt8) then ((w8_two.f).bind fun t161 => ((rules_Sign.f t161 (⟨#[99, 97, 112]⟩ : ByteArray)).bind fun t164 => (if t164.toList = ([] : List UInt8) then ((rules_Names.f).bind fun t165 => (some ((t165.length : Int) == 13))) else (some false)))) else (some false)))) else (some false)) else (some false)) else (some false)) else (some false)) else (some false)) else (some false)) else (some false)))))))) = some r := h
 have hr0 := aK (w8_awake.only k r h)
 clear h
 replace H := oB H
 obtain ⟨⟨t138, t139, t140⟩, A10, H⟩ := H
 try dsimp only at H
 have A1 := aK A10
 clear A10
 replace H := oB H
 obtain ⟨⟨t143, t144, t145⟩, A20, H⟩ := H
 try dsimp only at H
 have A2 := aK A20
 clear A20
 replace H := oB H
 obtain ⟨t148, A30, H⟩ := H
 try dsimp only at H
 have A3 := aK A30
 clear A30
 replace H := oB H
 obtain ⟨⟨t151, t152⟩, A40, H⟩ := H
 try dsimp only at H
 have A4 := aK A40
 clear A40
 replace H := oB H
 obtain ⟨t153, A50, H⟩ := H
 try dsimp only at H
 have A5 := aK A50
 clear A50
 replace H := oB H
 obtain ⟨t156, A60, H⟩ := H
 try dsimp only at H
 have A6 := aK A60
 clear A60
 by_cases c7 : t156 = true
 ·
  subst c7
  have H1 : (if t139 = 0 then (if t140 = 0 then (if t144 = 2 then (if t145 = 6 then (if t151.toList = ([97, 110, 121, 32, 97, 110, 100, 32, 49, 50, 51, 52, 54, 32, 49, 10, 109, 97, 114, 107, 32, 46, 32, 50, 53, 54, 10] : List UInt8) then (if t152 = 0 then ((w8_two.f).bind fun t157 => ((rules_Mark.f t157 46).bind fun t160 => (if t160.toList = ([50] : List UInt8) then ((w8_two.f).bind fun t161 => ((rules_Sign.f t161 (⟨#[99, 97, 112]⟩ : ByteArray)).bind fun t164 => (if t164.toList = ([] : List UInt8) then ((rules_Names.f).bind fun t165 => (some ((t165.length : Int) == 13))) else (some false)))) else (some false)))) else (some false)) else (some false)) else (some false)) else (some false)) else (some false)) else (some false)) = some r := by rw [if_pos rfl] at H; exact H
  clear H
  have H := H1
  clear H1
  by_cases c8 : t139 = 0
  ·
   rw [if_pos c8] at H
   have c8b0 : (t139 == 0) = true := beq_iff_eq.mpr c8
   have c8b1 : (t139 != 0) = false := bne_eq_false_iff_eq.mpr c8
   clear c8
   by_cases c9 : t140 = 0
   ·
    rw [if_pos c9] at H
    have c9b0 : (t140 == 0) = true := beq_iff_eq.mpr c9
    have c9b1 : (t140 != 0) = false := bne_eq_false_iff_eq.mpr c9
    clear c9
    by_cases c10 : t144 = 2
    ·
     rw [if_pos c10] at H
     have c10b0 : (t144 == 2) = true := beq_iff_eq.mpr c10
     have c10b1 : (t144 != 2) = false := bne_eq_false_iff_eq.mpr c10
     clear c10
     by_cases c11 : t145 = 6
     ·
      rw [if_pos c11] at H
      have c11b0 : (t145 == 6) = true := beq_iff_eq.mpr c11
      have c11b1 : (t145 != 6) = false := bne_eq_false_iff_eq.mpr c11
      clear c11
      by_cases c12 : t151.toList = ([97, 110, 121, 32, 97, 110, 100, 32, 49, 50, 51, 52, 54, 32, 49, 10, 109, 97, 114, 107, 32, 46, 32, 50, 53, 54, 10] : List UInt8)
      ·
       rw [if_pos c12] at H
       have c12b0 : (t151.toList == ([97, 110, 121, 32, 97, 110, 100, 32, 49, 50, 51, 52, 54, 32, 49, 10, 109, 97, 114, 107, 32, 46, 32, 50, 53, 54, 10] : List UInt8)) = true := beq_iff_eq.mpr c12
       have c12b1 : (t151.toList != ([97, 110, 121, 32, 97, 110, 100, 32, 49, 50, 51, 52, 54, 32, 49, 10, 109, 97, 114, 107, 32, 46, 32, 50, 53, 54, 10] : List UInt8)) = false := bne_eq_false_iff_eq.mpr c12
       clear c12
       by_cases c13 : t152 = 0
       ·
        rw [if_pos c13] at H
        have c13b0 : (t152 == 0) = true := beq_iff_eq.mpr c13
        have c13b1 : (t152 != 0) = false := bne_eq_false_iff_eq.mpr c13
        clear c13
        replace H := oB H
        obtain ⟨t157, A140, H⟩ := H
        try dsimp only at H
        have A14 := aK A140
        clear A140
        replace H := oB H
        obtain ⟨t160, A150, H⟩ := H
        try dsimp only at H
        have A15 := aK A150
        clear A150
        by_cases c16 : t160.toList = ([50] : List UInt8)
        ·
         rw [if_pos c16] at H
         have c16b0 : (t160.toList == ([50] : List UInt8)) = true := beq_iff_eq.mpr c16
         have c16b1 : (t160.toList != ([50] : List UInt8)) = false := bne_eq_false_iff_eq.mpr c16
         clear c16
         replace H := oB H
         obtain ⟨t161, A170, H⟩ := H
         try dsimp only at H
         have A17 := aK A170
         clear A170
         replace H := oB H
         obtain ⟨t164, A180, H⟩ := H
         try dsimp only at H
         have A18 := aK A180
         clear A180
         by_cases c19 : t164.toList = ([] : List UInt8)
         ·
          rw [if_pos c19] at H
          have c19b0 : (t164.toList == ([] : List UInt8)) = true := beq_iff_eq.mpr c19
          have c19b1 : (t164.toList != ([] : List UInt8)) = false := bne_eq_false_iff_eq.mpr c19
          clear c19
          replace H := oB H
          obtain ⟨t165, A200, H⟩ := H
          replace H : (some ((t165.length : Int) == 13)) = some r := H
          have A20 := aK A200
          clear A200
          obtain rfl := oI H
          go_enter Tryz.func13, Tryz.ntmps13
          go_wp2_with (first | (go_at_call 14; (with_reducible refine (rules_Parse.calls (⟨#[97, 110, 121, 32, 97, 110, 100, 32, 49, 50, 51, 52, 54, 32, 49, 10, 35, 32, 120, 10, 109, 97, 114, 107, 32, 46, 32, 50, 53, 54]⟩ : ByteArray) t138 t139 t140 _ A1.out).mono ?_); rintro e w21 ⟨v141, rfl, ho0, hb⟩; have n0_ := aK (Kd.R_lower ho0 (bSz (by repeat (first | (with_reducible first | exact HB.out | apply bAl | apply pbD | apply bD1) | exact HB.out)))); have n1_ := aK (bSp (by repeat (first | (with_reducible first | exact HB.out | apply bAl | apply pbD | apply bD1) | exact HB.out)) hb); clear HB; have HO142 := n0_; have HB := n1_; clear n0_ n1_; (try clear hb); (try clear hb2); (try clear hk); (try clear hi); (try clear ho0)) | (go_at_call 14; (with_reducible refine (rules_Parse.calls (⟨#[97, 110, 121, 32, 97, 110, 100, 32, 49, 50, 51, 52, 54, 32, 49, 10, 119, 111, 114, 100, 32, 97]⟩ : ByteArray) t143 t144 t145 _ A2.out).mono ?_); rintro e w22 ⟨v146, rfl, ho0, hb⟩; have n0_ := aK (Kd.R_elder' (by (with_reducible repeat (first | apply Kd.R_alloc | apply Kd.R_drewN | apply Kd.R_drew)); exact HO142.out) (Kd.R_base ho0) hb); have n1_ := aK (Kd.R_lower (Kd.R_new' ho0 (Kd.R_lt (by (with_reducible repeat (first | apply Kd.R_alloc | apply Kd.R_drewN | apply Kd.R_drew)); exact HO142.out))) (bSz (by repeat (first | (with_reducible first | exact HB.out | apply bAl | apply pbD | apply bD1) | exact HB.out)))); have n2_ := aK (bSp (by repeat (first | (with_reducible first | exact HB.out | apply bAl | apply pbD | apply bD1) | exact HB.out)) hb); clear HO142; clear HB; have HO142 := n0_; have HO147 := n1_; have HB := n2_; clear n0_ n1_ n2_; (try clear hb); (try clear hb2); (try clear hk); (try clear hi); (try clear ho0)) | (go_at_call 42; (with_reducible refine (w8_two.calls  t148 _ A3.out).mono ?_); rintro e w23 ⟨v149, rfl, ho0, hb⟩; have n0_ := aK (Kd.R_elder' (by (with_reducible repeat (first | apply Kd.R_alloc | apply Kd.R_drewN | apply Kd.R_drew)); exact HO142.out) (Kd.R_base ho0) hb); have n1_ := aK (Kd.R_elder' (by (with_reducible repeat (first | apply Kd.R_alloc | apply Kd.R_drewN | apply Kd.R_drew)); exact HO147.out) (Kd.R_base ho0) hb); have n2_ := aK (Kd.R_lower (Kd.R_new' (Kd.R_new' ho0 (Kd.R_lt (by (with_reducible repeat (first | apply Kd.R_alloc | apply Kd.R_drewN | apply Kd.R_drew)); exact HO142.out))) (Kd.R_lt (by (with_reducible repeat (first | apply Kd.R_alloc | apply Kd.R_drewN | apply Kd.R_drew)); exact HO147.out))) (bSz (by repeat (first | (with_reducible first | exact HB.out | apply bAl | apply pbD | apply bD1) | exact HB.out)))); have n3_ := aK (bSp (by repeat (first | (with_reducible first | exact HB.out | apply bAl | apply pbD | apply bD1) | exact HB.out)) hb); clear HO142; clear HO147; clear HB; have HO142 := n0_; have HO147 := n1_; have HO150 := n2_; have HB := n3_; clear n0_ n1_ n2_ n3_; (try clear hb); (try clear hb2); (try clear hk); (try clear hi); (try clear ho0); obtain ⟨Ao24, co24, eo24⟩ := Kd.R_slice HO150.out; subst eo24; have BA3 := A3; clear A3) | (go_at_call 18; (with_reducible refine (rules_Print.calls _ _ t148 t151 t152 _ ?side1 ?side2 A4.out).mono ?_); (case side1 => repeat (first | exact (Kd.R_reads' HO150.out).2.2 | (with_reducible refine Kd.C_alloc ?_ _) | (with_reducible refine Kd.C_drewN ?_ _) | (with_reducible refine Kd.C_drew ?_))); (case side2 => exact (Kd.R_reads' HO150.out).2.1); rintro e w25 ⟨rfl, hb⟩; have n0_ := aK (Kd.R_below (by (with_reducible repeat (first | apply Kd.R_alloc | apply Kd.R_drewN | apply Kd.R_drew)); exact HO142.out) hb); have n1_ := aK (Kd.R_below (by (with_reducible repeat (first | apply Kd.R_alloc | apply Kd.R_drewN | apply Kd.R_drew)); exact HO147.out) hb); have n2_ := aK (Kd.R_below (by (with_reducible repeat (first | apply Kd.R_alloc | apply Kd.R_drewN | apply Kd.R_drew)); exact HO150.out) hb); have n3_ := aK (bSp (by repeat (first | (with_reducible first | exact HB.out | apply bAl | apply pbD | apply bD1) | exact HB.out)) hb); clear HO142; clear HO147; clear HO150; clear HB; have HO142 := n0_; have HO147 := n1_; have HO150 := n2_; have HB := n3_; clear n0_ n1_ n2_ n3_; (try clear hb); (try clear hb2); (try clear hk); (try clear hi)) | (go_at_call 42; (with_reducible refine (w8_two.calls  t153 _ A5.out).mono ?_); rintro e w26 ⟨v154, rfl, ho0, hb⟩; have n0_ := aK (Kd.R_elder' (by (with_reducible repeat (first | apply Kd.R_alloc | apply Kd.R_drewN | apply Kd.R_drew)); exact HO142.out) (Kd.R_base ho0) hb); have n1_ := aK (Kd.R_elder' (by (with_reducible repeat (first | apply Kd.R_alloc | apply Kd.R_drewN | apply Kd.R_drew)); exact HO147.out) (Kd.R_base ho0) hb); have n2_ := aK (Kd.R_elder' (by (with_reducible repeat (first | apply Kd.R_alloc | apply Kd.R_drewN | apply Kd.R_drew)); exact HO150.out) (Kd.R_base ho0) hb); have n3_ := aK (Kd.R_lower (Kd.R_new' (Kd.R_new' (Kd.R_new' ho0 (Kd.R_lt (by (with_reducible repeat (first | apply Kd.R_alloc | apply Kd.R_drewN | apply Kd.R_drew)); exact HO142.out))) (Kd.R_lt (by (with_reducible repeat (first | apply Kd.R_alloc | apply Kd.R_drewN | apply Kd.R_drew)); exact HO147.out))) (Kd.R_lt (by (with_reducible repeat (first | apply Kd.R_alloc | apply Kd.R_drewN | apply Kd.R_drew)); exact HO150.out))) (bSz (by repeat (first | (with_reducible first | exact HB.out | apply bAl | apply pbD | apply bD1) | exact HB.out)))); have n4_ := aK (bSp (by repeat (first | (with_reducible first | exact HB.out | apply bAl | apply pbD | apply bD1) | exact HB.out)) hb); clear HO142; clear HO147; clear HO150; clear HB; have HO142 := n0_; have HO147 := n1_; have HO150 := n2_; have HO155 := n3_; have HB := n4_; clear n0_ n1_ n2_ n3_ n4_; (try clear hb); (try clear hb2); (try clear hk); (try clear hi); (try clear ho0); obtain ⟨Ao27, co27, eo27⟩ := Kd.R_slice HO142.out; subst eo27; obtain ⟨Ao28, co28, eo28⟩ := Kd.R_slice HO155.out; subst eo28; have BA5 := A5; clear A5) | (go_at_call 16; (with_reducible refine (r8_Same.calls k _ _ t138 _ _ t153 true _ ?side1 ?side2 ?side3 ?side4 A6.out).mono ?_); (case side1 => repeat (first | exact (Kd.R_reads' HO142.out).2.2 | (with_reducible refine Kd.C_alloc ?_ _) | (with_reducible refine Kd.C_drewN ?_ _) | (with_reducible refine Kd.C_drew ?_))); (case side2 => exact (Kd.R_reads' HO142.out).2.1); (case side3 => repeat (first | exact (Kd.R_reads' HO155.out).2.2 | (with_reducible refine Kd.C_alloc ?_ _) | (with_reducible refine Kd.C_drewN ?_ _) | (with_reducible refine Kd.C_drew ?_))); (case side4 => exact (Kd.R_reads' HO155.out).2.1); rintro e w' ⟨rfl, ⟨nd, rfl⟩⟩) | (go_at_call 42; (with_reducible refine (w8_two.calls  t157 _ A14.out).mono ?_); rintro e w29 ⟨v158, rfl, ho0, hb⟩; have n0_ := aK (Kd.R_elder' (by (with_reducible repeat (first | apply Kd.R_alloc | apply Kd.R_drewN | apply Kd.R_drew)); exact HO142.out) (Kd.R_base ho0) hb); have n1_ := aK (Kd.R_elder' (by (with_reducible repeat (first | apply Kd.R_alloc | apply Kd.R_drewN | apply Kd.R_drew)); exact HO147.out) (Kd.R_base ho0) hb); have n2_ := aK (Kd.R_elder' (by (with_reducible repeat (first | apply Kd.R_alloc | apply Kd.R_drewN | apply Kd.R_drew)); exact HO150.out) (Kd.R_base ho0) hb); have n3_ := aK (Kd.R_elder' (by (with_reducible repeat (first | apply Kd.R_alloc | apply Kd.R_drewN | apply Kd.R_drew)); exact HO155.out) (Kd.R_base ho0) hb); have n4_ := aK (Kd.R_lower (Kd.R_new' (Kd.R_new' (Kd.R_new' (Kd.R_new' ho0 (Kd.R_lt (by (with_reducible repeat (first | apply Kd.R_alloc | apply Kd.R_drewN | apply Kd.R_drew)); exact HO142.out))) (Kd.R_lt (by (with_reducible repeat (first | apply Kd.R_alloc | apply Kd.R_drewN | apply Kd.R_drew)); exact HO147.out))) (Kd.R_lt (by (with_reducible repeat (first | apply Kd.R_alloc | apply Kd.R_drewN | apply Kd.R_drew)); exact HO150.out))) (Kd.R_lt (by (with_reducible repeat (first | apply Kd.R_alloc | apply Kd.R_drewN | apply Kd.R_drew)); exact HO155.out))) (bSz (by repeat (first | (with_reducible first | exact HB.out | apply bAl | apply pbD | apply bD1) | exact HB.out)))); have n5_ := aK (bSp (by repeat (first | (with_reducible first | exact HB.out | apply bAl | apply pbD | apply bD1) | exact HB.out)) hb); clear HO142; clear HO147; clear HO150; clear HO155; clear HB; have HO142 := n0_; have HO147 := n1_; have HO150 := n2_; have HO155 := n3_; have HO159 := n4_; have HB := n5_; clear n0_ n1_ n2_ n3_ n4_ n5_; (try clear hb); (try clear hb2); (try clear hk); (try clear hi); (try clear ho0); obtain ⟨Ao30, co30, eo30⟩ := Kd.R_slice HO159.out; subst eo30; have BA14 := A14; clear A14) | (go_at_call 24; (with_reducible refine (rules_Mark.calls _ _ t157 46 t160 _ ?side1 ?side2 A15.out).mono ?_); (case side1 => repeat (first | exact (Kd.R_reads' HO159.out).2.2 | (with_reducible refine Kd.C_alloc ?_ _) | (with_reducible refine Kd.C_drewN ?_ _) | (with_reducible refine Kd.C_drew ?_))); (case side2 => exact (Kd.R_reads' HO159.out).2.1); rintro e w31 ⟨rfl, hb⟩; have n0_ := aK (Kd.R_below (by (with_reducible repeat (first | apply Kd.R_alloc | apply Kd.R_drewN | apply Kd.R_drew)); exact HO142.out) hb); have n1_ := aK (Kd.R_below (by (with_reducible repeat (first | apply Kd.R_alloc | apply Kd.R_drewN | apply Kd.R_drew)); exact HO147.out) hb); have n2_ := aK (Kd.R_below (by (with_reducible repeat (first | apply Kd.R_alloc | apply Kd.R_drewN | apply Kd.R_drew)); exact HO150.out) hb); have n3_ := aK (Kd.R_below (by (with_reducible repeat (first | apply Kd.R_alloc | apply Kd.R_drewN | apply Kd.R_drew)); exact HO155.out) hb); have n4_ := aK (Kd.R_below (by (with_reducible repeat (first | apply Kd.R_alloc | apply Kd.R_drewN | apply Kd.R_drew)); exact HO159.out) hb); have n5_ := aK (bSp (by repeat (first | (with_reducible first | exact HB.out | apply bAl | apply pbD | apply bD1) | exact HB.out)) hb); clear HO142; clear HO147; clear HO150; clear HO155; clear HO159; clear HB; have HO142 := n0_; have HO147 := n1_; have HO150 := n2_; have HO155 := n3_; have HO159 := n4_; have HB := n5_; clear n0_ n1_ n2_ n3_ n4_ n5_; (try clear hb); (try clear hb2); (try clear hk); (try clear hi)) | (go_at_call 42; (with_reducible refine (w8_two.calls  t161 _ A17.out).mono ?_); rintro e w32 ⟨v162, rfl, ho0, hb⟩; have n0_ := aK (Kd.R_elder' (by (with_reducible repeat (first | apply Kd.R_alloc | apply Kd.R_drewN | apply Kd.R_drew)); exact HO142.out) (Kd.R_base ho0) hb); have n1_ := aK (Kd.R_elder' (by (with_reducible repeat (first | apply Kd.R_alloc | apply Kd.R_drewN | apply Kd.R_drew)); exact HO147.out) (Kd.R_base ho0) hb); have n2_ := aK (Kd.R_elder' (by (with_reducible repeat (first | apply Kd.R_alloc | apply Kd.R_drewN | apply Kd.R_drew)); exact HO150.out) (Kd.R_base ho0) hb); have n3_ := aK (Kd.R_elder' (by (with_reducible repeat (first | apply Kd.R_alloc | apply Kd.R_drewN | apply Kd.R_drew)); exact HO155.out) (Kd.R_base ho0) hb); have n4_ := aK (Kd.R_elder' (by (with_reducible repeat (first | apply Kd.R_alloc | apply Kd.R_drewN | apply Kd.R_drew)); exact HO159.out) (Kd.R_base ho0) hb); have n5_ := aK (Kd.R_lower (Kd.R_new' (Kd.R_new' (Kd.R_new' (Kd.R_new' (Kd.R_new' ho0 (Kd.R_lt (by (with_reducible repeat (first | apply Kd.R_alloc | apply Kd.R_drewN | apply Kd.R_drew)); exact HO142.out))) (Kd.R_lt (by (with_reducible repeat (first | apply Kd.R_alloc | apply Kd.R_drewN | apply Kd.R_drew)); exact HO147.out))) (Kd.R_lt (by (with_reducible repeat (first | apply Kd.R_alloc | apply Kd.R_drewN | apply Kd.R_drew)); exact HO150.out))) (Kd.R_lt (by (with_reducible repeat (first | apply Kd.R_alloc | apply Kd.R_drewN | apply Kd.R_drew)); exact HO155.out))) (Kd.R_lt (by (with_reducible repeat (first | apply Kd.R_alloc | apply Kd.R_drewN | apply Kd.R_drew)); exact HO159.out))) (bSz (by repeat (first | (with_reducible first | exact HB.out | apply bAl | apply pbD | apply bD1) | exact HB.out)))); have n6_ := aK (bSp (by repeat (first | (with_reducible first | exact HB.out | apply bAl | apply pbD | apply bD1) | exact HB.out)) hb); clear HO142; clear HO147; clear HO150; clear HO155; clear HO159; clear HB; have HO142 := n0_; have HO147 := n1_; have HO150 := n2_; have HO155 := n3_; have HO159 := n4_; have HO163 := n5_; have HB := n6_; clear n0_ n1_ n2_ n3_ n4_ n5_ n6_; (try clear hb); (try clear hb2); (try clear hk); (try clear hi); (try clear ho0); obtain ⟨Ao33, co33, eo33⟩ := Kd.R_slice HO163.out; subst eo33; have BA17 := A17; clear A17) | (go_at_call 22; (with_reducible refine (rules_Sign.calls _ _ t161 (⟨#[99, 97, 112]⟩ : ByteArray) t164 _ ?side1 ?side2 A18.out).mono ?_); (case side1 => repeat (first | exact (Kd.R_reads' HO163.out).2.2 | (with_reducible refine Kd.C_alloc ?_ _) | (with_reducible refine Kd.C_drewN ?_ _) | (with_reducible refine Kd.C_drew ?_))); (case side2 => exact (Kd.R_reads' HO163.out).2.1); rintro e w34 ⟨rfl, hb⟩; have n0_ := aK (Kd.R_below (by (with_reducible repeat (first | apply Kd.R_alloc | apply Kd.R_drewN | apply Kd.R_drew)); exact HO142.out) hb); have n1_ := aK (Kd.R_below (by (with_reducible repeat (first | apply Kd.R_alloc | apply Kd.R_drewN | apply Kd.R_drew)); exact HO147.out) hb); have n2_ := aK (Kd.R_below (by (with_reducible repeat (first | apply Kd.R_alloc | apply Kd.R_drewN | apply Kd.R_drew)); exact HO150.out) hb); have n3_ := aK (Kd.R_below (by (with_reducible repeat (first | apply Kd.R_alloc | apply Kd.R_drewN | apply Kd.R_drew)); exact HO155.out) hb); have n4_ := aK (Kd.R_below (by (with_reducible repeat (first | apply Kd.R_alloc | apply Kd.R_drewN | apply Kd.R_drew)); exact HO159.out) hb); have n5_ := aK (Kd.R_below (by (with_reducible repeat (first | apply Kd.R_alloc | apply Kd.R_drewN | apply Kd.R_drew)); exact HO163.out) hb); have n6_ := aK (bSp (by repeat (first | (with_reducible first | exact HB.out | apply bAl | apply pbD | apply bD1) | exact HB.out)) hb); clear HO142; clear HO147; clear HO150; clear HO155; clear HO159; clear HO163; clear HB; have HO142 := n0_; have HO147 := n1_; have HO150 := n2_; have HO155 := n3_; have HO159 := n4_; have HO163 := n5_; have HB := n6_; clear n0_ n1_ n2_ n3_ n4_ n5_ n6_; (try clear hb); (try clear hb2); (try clear hk); (try clear hi)) | (go_at_call 28; (with_reducible refine (rules_Names.calls  t165 _ A20.out).mono ?_); rintro e w35 ⟨v166, rfl, ho0, hb⟩; have n0_ := aK (Kd.R_below (by (with_reducible repeat (first | apply Kd.R_alloc | apply Kd.R_drewN | apply Kd.R_drew)); exact HO142.out) hb); have n1_ := aK (Kd.R_below (by (with_reducible repeat (first | apply Kd.R_alloc | apply Kd.R_drewN | apply Kd.R_drew)); exact HO147.out) hb); have n2_ := aK (Kd.R_below (by (with_reducible repeat (first | apply Kd.R_alloc | apply Kd.R_drewN | apply Kd.R_drew)); exact HO150.out) hb); have n3_ := aK (Kd.R_below (by (with_reducible repeat (first | apply Kd.R_alloc | apply Kd.R_drewN | apply Kd.R_drew)); exact HO155.out) hb); have n4_ := aK (Kd.R_below (by (with_reducible repeat (first | apply Kd.R_alloc | apply Kd.R_drewN | apply Kd.R_drew)); exact HO159.out) hb); have n5_ := aK (Kd.R_below (by (with_reducible repeat (first | apply Kd.R_alloc | apply Kd.R_drewN | apply Kd.R_drew)); exact HO163.out) hb); have n6_ := aK (Kd.R_lower ho0 (bSz (by repeat (first | (with_reducible first | exact HB.out | apply bAl | apply pbD | apply bD1) | exact HB.out)))); have n7_ := aK (bSp (by repeat (first | (with_reducible first | exact HB.out | apply bAl | apply pbD | apply bD1) | exact HB.out)) hb); clear HO142; clear HO147; clear HO150; clear HO155; clear HO159; clear HO163; clear HB; have HO142 := n0_; have HO147 := n1_; have HO150 := n2_; have HO155 := n3_; have HO159 := n4_; have HO163 := n5_; have HO167 := n6_; have HB := n7_; clear n0_ n1_ n2_ n3_ n4_ n5_ n6_ n7_; (try clear hb); (try clear hb2); (try clear hk); (try clear hi); (try clear ho0); obtain ⟨Ao36, co36, eo36⟩ := Kd.R_slice HO167.out; subst eo36))
          go_ret
          exact ⟨by first | rfl | (simp only [oI (BA5.out.symm.trans BA3.out), oI (BA14.out.symm.trans BA3.out), oI (BA17.out.symm.trans BA3.out)]; done) | (simp only [oI (BA5.out.symm.trans BA3.out), oI (BA14.out.symm.trans BA3.out), oI (BA17.out.symm.trans BA3.out)]; rfl) | (simp [eWn, eWs] <;> rfl) | (simp [*, eWn, eWs] <;> rfl), by repeat (first | (with_reducible first | exact HB.out | apply bAl | apply pbD | apply bD1) | exact HB.out)⟩
         ·
          rw [if_neg c19] at H
          have c19b0 : (t164.toList == ([] : List UInt8)) = false := beq_eq_false_iff_ne.mpr c19
          have c19b1 : (t164.toList != ([] : List UInt8)) = true := bne_iff_ne.mpr c19
          exact absurd ((oI H).trans hr0.out) (by decide)
        ·
         rw [if_neg c16] at H
         have c16b0 : (t160.toList == ([50] : List UInt8)) = false := beq_eq_false_iff_ne.mpr c16
         have c16b1 : (t160.toList != ([50] : List UInt8)) = true := bne_iff_ne.mpr c16
         exact absurd ((oI H).trans hr0.out) (by decide)
       ·
        rw [if_neg c13] at H
        have c13b0 : (t152 == 0) = false := beq_eq_false_iff_ne.mpr c13
        have c13b1 : (t152 != 0) = true := bne_iff_ne.mpr c13
        exact absurd ((oI H).trans hr0.out) (by decide)
      ·
       rw [if_neg c12] at H
       have c12b0 : (t151.toList == ([97, 110, 121, 32, 97, 110, 100, 32, 49, 50, 51, 52, 54, 32, 49, 10, 109, 97, 114, 107, 32, 46, 32, 50, 53, 54, 10] : List UInt8)) = false := beq_eq_false_iff_ne.mpr c12
       have c12b1 : (t151.toList != ([97, 110, 121, 32, 97, 110, 100, 32, 49, 50, 51, 52, 54, 32, 49, 10, 109, 97, 114, 107, 32, 46, 32, 50, 53, 54, 10] : List UInt8)) = true := bne_iff_ne.mpr c12
       exact absurd ((oI H).trans hr0.out) (by decide)
     ·
      rw [if_neg c11] at H
      have c11b0 : (t145 == 6) = false := beq_eq_false_iff_ne.mpr c11
      have c11b1 : (t145 != 6) = true := bne_iff_ne.mpr c11
      exact absurd ((oI H).trans hr0.out) (by decide)
    ·
     rw [if_neg c10] at H
     have c10b0 : (t144 == 2) = false := beq_eq_false_iff_ne.mpr c10
     have c10b1 : (t144 != 2) = true := bne_iff_ne.mpr c10
     exact absurd ((oI H).trans hr0.out) (by decide)
   ·
    rw [if_neg c9] at H
    have c9b0 : (t140 == 0) = false := beq_eq_false_iff_ne.mpr c9
    have c9b1 : (t140 != 0) = true := bne_iff_ne.mpr c9
    exact absurd ((oI H).trans hr0.out) (by decide)
  ·
   rw [if_neg c8] at H
   have c8b0 : (t139 == 0) = false := beq_eq_false_iff_ne.mpr c8
   have c8b1 : (t139 != 0) = true := bne_iff_ne.mpr c8
   exact absurd ((oI H).trans hr0.out) (by decide)
 ·
  replace c7 := Bool.eq_false_iff.mpr c7
  subst c7
  have H1 : (some false) = some r := by rw [if_neg (show ¬ (false = true) by decide)] at H; exact H
  clear H
  have H := H1
  clear H1
  exact absurd ((oI H).trans hr0.out) (by decide)
end Go.Proofs.YtgjkjoocnkdckaaGreatDoor.PChk
