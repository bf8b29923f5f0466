import Derived.Test.YtbpbniemjjhecaaGreatZPChk0
import Derived.Test.YtbpbniemjjhecaaGreatZPChk14
namespace Go.Proofs.YtbpbniemjjhecaaGreat.PChk
open Go.RowKit Go.Proofs.YtbpbniemjjhecaaGreat.G Go.Proofs.YtbpbniemjjhecaaGreatW.PrintWords Go.Proofs.YtbpbniemjjhecaaGreatW.PrintLast Go.Proofs.YtbpbniemjjhecaaGreatW.PrintMore
attribute [local go_sem] max2_int min2_int max_two min_two max_three min_three max_four min_four
set_option linter.unusedVariables false
set_option linter.unusedSimpArgs false
set_option maxHeartbeats 8000000
set_option maxRecDepth 100000
mutual
def r2_Parse.l0 : Nat → ByteArray → List Int → Int → Int → Option (ByteArray × Int)
 | 0, _, _, _, _ => none
 | k + 1, x0, x4, x5, x6 => if x6 ≤ (x0.size : Int) then (if x6 < (x0.size : Int) then (if 0 ≤ x6 then (r2_Parse.j1 k x0 x4 x5 x6 ((bt x0 x6) != 45)) else (none)) else (r2_Parse.j1 k x0 x4 x5 x6 false)) else (some (strOfNums x4, (-1)))
def r2_Parse.j1 : Nat → ByteArray → List Int → Int → Int → Bool → Option (ByteArray × Int)
 | 0, _, _, _, _, _ => none
 | k + 1, x0, x4, x5, x6, x24 => if x24 = true then (r2_Parse.l0 k x0 x4 x5 (wrap64 (x6 + 1))) else (if 0 ≤ x5 then (if x5 ≤ x6 then (if x6 ≤ (x0.size : Int) then ((r2_Of.f k (x0.extract (x5 : Int).toNat (x6 : Int).toNat)).bind fun bt249 => (if bt249.2 = true then (if (x4.length : Int) = 4 then (some ((⟨#[]⟩ : ByteArray), x5)) else (if x4.length < 140737488355328 then (r2_Parse.l0 k x0 (x4 ++ [bt249.1]) (wrap64 (x6 + 1)) (wrap64 (x6 + 1))) else (none))) else (some ((⟨#[]⟩ : ByteArray), x5)))) else (none)) else (none)) else (none))
end
def r2_Parse.f (k : Nat) (a0 : ByteArray) : Option (ByteArray × Int) := r2_Parse.l0 k a0 ([] : List Int) 0 0
theorem r2_Parse.mono_l : ∀ k, (∀ y0 y1 y2 y3, LeO (r2_Parse.l0 k y0 y1 y2 y3) (r2_Parse.l0 (k + 1) y0 y1 y2 y3)) ∧ (∀ y0 y1 y2 y3 y4, LeO (r2_Parse.j1 k y0 y1 y2 y3 y4) (r2_Parse.j1 (k + 1) y0 y1 y2 y3 y4))
 | 0 => ⟨fun _ _ _ _ r h => by simp [r2_Parse.l0] at h, fun _ _ _ _ _ r h => by simp [r2_Parse.j1] at h⟩
 | k + 1 => by
  obtain ⟨ih0, ih1⟩ := r2_Parse.mono_l k
  refine ⟨?_, ?_⟩
  ·
   intro y0 y1 y2 y3
   unfold r2_Parse.l0
   repeat' first
   | (with_reducible first | exact ih0 _ _ _ _ | exact ih1 _ _ _ _ _ | exact r2_Of.mono _ _ | exact LeO.refl _ | exact LeO.none _ | refine LeO.ite ?_ ?_ | refine LeO.bind ?_ (fun _ => ?_))
   | exact ih0 _ _ _ _
   | exact ih1 _ _ _ _ _
   | exact r2_Of.mono _ _
   | exact LeO.none _
   | refine LeO.ite ?_ ?_
   | refine LeO.bind ?_ (fun _ => ?_)
  ·
   intro y0 y1 y2 y3 y4
   unfold r2_Parse.j1
   repeat' first
   | (with_reducible first | exact ih0 _ _ _ _ | exact ih1 _ _ _ _ _ | exact r2_Of.mono _ _ | exact LeO.refl _ | exact LeO.none _ | refine LeO.ite ?_ ?_ | refine LeO.bind ?_ (fun _ => ?_))
   | exact ih0 _ _ _ _
   | exact ih1 _ _ _ _ _
   | exact r2_Of.mono _ _
   | exact LeO.none _
   | refine LeO.ite ?_ ?_
   | refine LeO.bind ?_ (fun _ => ?_)
theorem r2_Parse.mono : ∀ a0 k, LeO (r2_Parse.f k a0) (r2_Parse.f (k + 1) a0) := by
 intro a0 k
 obtain ⟨ih0, ih1⟩ := r2_Parse.mono_l k
 unfold r2_Parse.f
 repeat' first
   | (with_reducible first | exact ih0 _ _ _ _ | exact ih1 _ _ _ _ _ | exact r2_Of.mono _ _ | exact LeO.refl _ | exact LeO.none _ | refine LeO.ite ?_ ?_ | refine LeO.bind ?_ (fun _ => ?_))
   | exact ih0 _ _ _ _
   | exact ih1 _ _ _ _ _
   | exact r2_Of.mono _ _
   | exact LeO.none _
   | refine LeO.ite ?_ ?_
   | refine LeO.bind ?_ (fun _ => ?_)
theorem r2_Parse.calls (k : Nat) (a0 : ByteArray) (r1 : ByteArray) (r2 : Int) (w : World) (h : r2_Parse.f k a0 = some (r1, r2)) :
  Calls Tryz.prog 127 #[.string a0] w fun e w' => e = .returned (.tuple #[.string r1, .int .i64 r2]) ∧ Below w.heap.size w w' := by
 have HB := aK (Below.refl w.heap.size w)
 have H : (r2_Parse.l0 k a0 ([] : List Int) 0 0) = some (r1, r2) := h
 clear h
 have H' := aK H
 clear H
 go_enter Tryz.func127, Tryz.ntmps127
 go_wp2
 go_loopg [4, 5, 6] k (fun kq v4 v5 v6 w' => ∃ (x4_1 : List Int) (x5_1 : Int) (x6_1 : Int), v5 = .int .i64 x5_1 ∧ v6 = .int .i64 x6_1 ∧ Aside0 (r2_Parse.l0 kq a0 x4_1 x5_1 x6_1 = some (r1, r2)) ∧ Aside0 (kq ≤ k) ∧ Aside0 (Kd.R (Kd.int .u8) 5 w' w.heap.size (fun _ => True) v4 x4_1) ∧ Aside0 (Below w.heap.size w w'))
 case atStart => exact ⟨(([] : List Int)), (0), (0), sX, sX, H', ⟨Nat.le_refl _⟩, ⟨by first | exact Kd.R_nil _ _ _ _ _ | exact Kd.N_nil _ _ _ _ _ | exact Kd.V_nil _ _ _ _ _ | exact Kd.Q_nil _ _ _ _ _ | exact Kd.S_nil _ _ _ _ _⟩, ⟨bX⟩⟩
 case round =>
  clear H'
  try clear c1
  obtain ⟨x4_1, x5_1, x6_1, rfl, rfl, HA, HK1, HO_4, HB⟩ := hrel
  cases gk with
  | zero => exact absurd HA.out (by simp [r2_Parse.l0])
  | succ k1 =>
   have H := HA.out; clear HA
   simp only [r2_Parse.l0] at H
   by_cases c2 : x6_1 ≤ (a0.size : Int)
   rotate_left
   ·
    rw [if_neg c2] at H; have c2b0 : decide (x6_1 ≤ (a0.size : Int)) = false := decide_eq_false c2; clear c2
    simp only [Option.some.injEq, Prod.mk.injEq] at H
    obtain ⟨rfl, rfl⟩ := H
    have hcv18 := own_string (P := Tryz.prog) Tryz.underlying52 Tryz.underlying5 Tryz.underlying9 (Kd.own_of_R HO_4.out)
    go_wp2
    go_ret2
    exact ⟨eX, bX⟩
   rw [if_pos c2] at H; have c2b0 : decide (x6_1 ≤ (a0.size : Int)) = true := decide_eq_true c2; clear c2; have HC3 := aK H; clear H
   go_upto_region 6 with (fail)
   go_cut [24] (fun v24 wc => ∃ (kq : Nat) (x24_2 : Bool), v24 = .bool x24_2 ∧ Aside0 (r2_Parse.j1 kq a0 x4_1 x5_1 x6_1 x24_2 = some (r1, r2)) ∧ Aside0 (kq ≤ k1) ∧ Aside0 (Kd.R (Kd.int .u8) 5 wc w.heap.size (fun _ => True) u4 x4_1) ∧ Aside0 (Below w.heap.size w wc))
   case first =>
    have H := HC3.out; clear HC3
    by_cases c4 : x6_1 < (a0.size : Int)
    rotate_left
    ·
     rw [if_neg c4] at H; have c4b0 : decide (x6_1 < (a0.size : Int)) = false := decide_eq_false c4; clear c4
     (first | rw [c4b0] | (simp only [i64_w, i32_w]; rw [c4b0]) | skip)
     have H' := aK H; clear H
     go_wp2
     go_meet
     case rel => exact ⟨_, (false), sX, H', ⟨by have := HK1.out; first | omega | exact Nat.le_refl _⟩, ⟨rX HO_4.out⟩, ⟨bX⟩⟩
    rw [if_pos c4] at H; have c4b0 : decide (x6_1 < (a0.size : Int)) = true := decide_eq_true c4; clear c4
    (first | rw [c4b0] | (simp only [i64_w, i32_w]; rw [c4b0]) | skip)
    by_cases c5 : 0 ≤ x6_1
    rotate_left
    ·
     rw [if_neg c5] at H
     exact absurd H (by simp)
    rw [if_pos c5] at H; have c5b0 : decide (0 ≤ x6_1) = true := decide_eq_true c5; clear c5; have H' := aK H; clear H; have p6 : 0 ≤ (x6_1 : Int) := oA; have q6 : x6_1 < (a0.size : Int) := oA
    have hx6 := bt_at a0 x6_1
    replace p6 := eq_true p6; replace q6 := eq_true q6
    go_wp2
    go_meet
    case rel => exact ⟨_, (((bt a0 x6_1) != 45)), sX, H', ⟨by have := HK1.out; first | omega | exact Nat.le_refl _⟩, ⟨rX HO_4.out⟩, ⟨bX⟩⟩
   case rest =>
    clear HC3
    try clear c1
    try clear c2
    try clear c2b0
    try clear p2
    try clear c4
    try clear c4b0
    try clear c5
    try clear c5b0
    try clear p6
    try clear q6
    try clear hx6
    try clear p6
    try clear q6
    obtain ⟨kq, x24_2, rfl, HA, HJ2, HO_4, HB⟩ := hcut
    cases kq with
    | zero => exact absurd HA.out (by simp [r2_Parse.j1])
    | succ kj2 =>
     have H := HA.out; clear HA
     simp only [r2_Parse.j1] at H
     by_cases c7 : x24_2 = true
     rotate_left
     ·
      replace c7 := Bool.eq_false_iff.mpr c7; subst c7
      have H1 : (if 0 ≤ x5_1 then (if x5_1 ≤ x6_1 then (if x6_1 ≤ (a0.size : Int) then ((r2_Of.f kj2 (a0.extract (x5_1 : Int).toNat (x6_1 : Int).toNat)).bind fun bt249 => (if bt249.2 = true then (if (x4_1.length : Int) = 4 then (some ((⟨#[]⟩ : ByteArray), x5_1)) else (if x4_1.length < 140737488355328 then (r2_Parse.l0 kj2 a0 (x4_1 ++ [bt249.1]) (wrap64 (x6_1 + 1)) (wrap64 (x6_1 + 1))) else (none))) else (some ((⟨#[]⟩ : ByteArray), x5_1)))) else (none)) else (none)) else (none)) = some (r1, r2) := by rw [if_neg (show ¬ (false = true) by decide)] at H; exact H
      clear H
      have H := H1
      clear H1
      by_cases c8 : 0 ≤ x5_1
      rotate_left
      ·
       rw [if_neg c8] at H
       exact absurd H (by simp)
      rw [if_pos c8] at H; have c8b0 := eq_true c8; have c8b1 : decide (0 ≤ x5_1) = true := decide_eq_true c8; clear c8
      by_cases c9 : x5_1 ≤ x6_1
      rotate_left
      ·
       rw [if_neg c9] at H
       exact absurd H (by simp)
      rw [if_pos c9] at H; have c9b0 := eq_true c9; have c9b1 : decide (x5_1 ≤ x6_1) = true := decide_eq_true c9; clear c9
      by_cases c10 : x6_1 ≤ (a0.size : Int)
      rotate_left
      ·
       rw [if_neg c10] at H
       exact absurd H (by simp)
      rw [if_pos c10] at H; have c10b0 := eq_true c10; have c10b1 : decide (x6_1 ≤ (a0.size : Int)) = true := decide_eq_true c10; clear c10
      obtain ⟨⟨t249, t250⟩, A11, H⟩ := oC H
      try dsimp only at H
      by_cases c12 : t250 = true
      rotate_left
      ·
       replace c12 := Bool.eq_false_iff.mpr c12; subst c12
       have H1 : (some ((⟨#[]⟩ : ByteArray), x5_1)) = some (r1, r2) := by rw [if_neg (show ¬ (false = true) by decide)] at H; exact H
       clear H
       have H := H1
       clear H1
       simp only [Option.some.injEq, Prod.mk.injEq] at H
       obtain ⟨rfl, rfl⟩ := H
       go_wp2_with (first | ((with_reducible refine gate_callee (f := 142) rfl ?_); refine gO 30 Tryz.func142 #[.string (a0.extract (x5_1 : Int).toNat (x6_1 : Int).toNat)] ?_; (with_reducible refine (r2_Of.calls kj2 (a0.extract (x5_1 : Int).toNat (x6_1 : Int).toNat) t249 false _ A11.out).mono ?_); rintro e w' ⟨rfl, ⟨nd, rfl⟩⟩; refine ⟨_, rfl, ?_⟩))
       go_ret2
       exact ⟨eX, bX⟩
      subst c12
      have H1 : (if (x4_1.length : Int) = 4 then (some ((⟨#[]⟩ : ByteArray), x5_1)) else (if x4_1.length < 140737488355328 then (r2_Parse.l0 kj2 a0 (x4_1 ++ [t249]) (wrap64 (x6_1 + 1)) (wrap64 (x6_1 + 1))) else (none))) = some (r1, r2) := by rw [if_pos rfl] at H; exact H
      clear H
      have H := H1
      clear H1
      by_cases c13 : (x4_1.length : Int) = 4
      rotate_left
      ·
       rw [if_neg c13] at H; obtain ⟨c13b0, c13b1⟩ := bN c13
       by_cases c15 : x4_1.length < 140737488355328
       rotate_left
       ·
        rw [if_neg c15] at H
        exact absurd H (by simp)
       rw [if_pos c15] at H; have LMc15 := aK c15; clear c15
       obtain ⟨y251, hy251⟩ : ∃ y_ : List Int, y_ = (x4_1 ++ [t249]) := ⟨_, rfl⟩
       replace H : (r2_Parse.l0 kj2 a0 y251 (wrap64 (x6_1 + 1)) (wrap64 (x6_1 + 1))) = some (r1, r2) := by first | (rw [hy251]; with_reducible exact H) | (have H2_ := (Option.bind_some _ _).symm.trans H; rw [hy251]; with_reducible exact H2_) | (have H2_ := (Option.bind_some _ _).symm.trans H; with_reducible exact H2_) | with_reducible exact H | (rw [hy251]; exact H) | exact H
       have Ny251 := aK hy251; clear hy251; have H' := aK H; clear H
       go_wp2_with (first | ((with_reducible refine gate_callee (f := 142) rfl ?_); refine gO 30 Tryz.func142 #[.string (a0.extract (x5_1 : Int).toNat (x6_1 : Int).toNat)] ?_; (with_reducible refine (r2_Of.calls kj2 (a0.extract (x5_1 : Int).toNat (x6_1 : Int).toNat) t249 true _ A11.out).mono ?_); rintro e w' ⟨rfl, ⟨nd, rfl⟩⟩; refine ⟨_, rfl, ?_⟩; obtain ⟨Ao16, co16, eo16⟩ := Kd.R_slice HO_4.out; subst eo16) | ((with_reducible refine gate_builtin (b := .append) (xs := #[.tmp 41, .tmp 43]) rfl ?_); (try (refine gate_guard (by rfl) ?_; dsimp only)); at_builtin; refine Kd.R_append (Kd.int .u8) (w0 := w) w.heap.size rfl (.tmp 41) (.tmp 43) 52 5 (.int .u8 0) 1 rfl Tryz.underlying52 info5 rfl (by decide) (by omega) (.slice Ao16 x4_1.length co16) x4_1 t249 [.int .u8 t249] (fun _ => True) (fun _ => False) rfl rfl ?aP (fun _ hk => hk.elim) ?aF ?aO ?aB ?aS ?aL ?_; (case aP => exact rfl); (case aB => exact bX); (case aF => exact (fun _ _ => trivial)); (case aO => exact (rX HO_4.out)); (case aS => exact (bSz bX)); (case aL => have := LMc15.out; omega); intro v252 w17 ho hb hg hat; rw [← Ny251.out] at ho; replace HB := aK (hb); have HO253 := aK (ho); clear HO_4; clear ho hb hg hat))
       go_roundg kj2
       case measure => have := HK1.out; have := HJ2.out; omega
       case rel => exact ⟨(y251), (wrap64 (x6_1 + 1)), (wrap64 (x6_1 + 1)), sX, sX, H', ⟨by have := HK1.out; have := HJ2.out; omega⟩, ⟨rX HO253.out⟩, ⟨bX⟩⟩
      rw [if_pos c13] at H; obtain ⟨c13b0, c13b1⟩ := bY c13; clear c13
      simp only [Option.some.injEq, Prod.mk.injEq] at H
      obtain ⟨rfl, rfl⟩ := H
      go_wp2_with (first | ((with_reducible refine gate_callee (f := 142) rfl ?_); refine gO 30 Tryz.func142 #[.string (a0.extract (x5_1 : Int).toNat (x6_1 : Int).toNat)] ?_; (with_reducible refine (r2_Of.calls kj2 (a0.extract (x5_1 : Int).toNat (x6_1 : Int).toNat) t249 true _ A11.out).mono ?_); rintro e w' ⟨rfl, ⟨nd, rfl⟩⟩; refine ⟨_, rfl, ?_⟩; obtain ⟨Ao14, co14, eo14⟩ := Kd.R_slice HO_4.out; subst eo14))
      go_ret2
      exact ⟨eX, bX⟩
     subst c7
     have H1 : (r2_Parse.l0 kj2 a0 x4_1 x5_1 (wrap64 (x6_1 + 1))) = some (r1, r2) := by rw [if_pos rfl] at H; exact H
     clear H
     have H := H1
     clear H1; have H' := aK H; clear H
     go_wp2
     go_roundg kj2
     case measure => have := HK1.out; have := HJ2.out; omega
     case rel => exact ⟨(x4_1), (x5_1), (wrap64 (x6_1 + 1)), sX, sX, H', ⟨by have := HK1.out; have := HJ2.out; omega⟩, ⟨rX HO_4.out⟩, ⟨bX⟩⟩
def r8_digits.j0 : Nat → ByteArray → Bool → Option (Int)
 | 0, _, _ => none
 | k + 1, x0, x15 => if x15 = true then (if 0 < (x0.size : Int) then (some (((bt x0 0) - 48) % 256)) else (none)) else (if (x0.size : Int) = 2 then (if 0 < (x0.size : Int) then (if (bt x0 0) ≥ 49 then (if (bt x0 0) ≤ 57 then (if 1 < (x0.size : Int) then (if (bt x0 1) ≥ 48 then (if (bt x0 1) ≤ 57 then (some ((10 * (((bt x0 0) - 48) % 256)) + (((bt x0 1) - 48) % 256))) else (some (-1))) else (some (-1))) else (none)) else (some (-1))) else (some (-1))) else (none)) else (some (-1)))
def r8_digits.f (k : Nat) (a0 : ByteArray) : Option (Int) := if (a0.size : Int) = 1 then (if 0 < (a0.size : Int) then (if (bt a0 0) ≥ 48 then (r8_digits.j0 k a0 (decide ((bt a0 0) ≤ 57))) else (r8_digits.j0 k a0 false)) else (none)) else (r8_digits.j0 k a0 false)
theorem r8_digits.mono_l : ∀ k, (∀ y0 y1, LeO (r8_digits.j0 k y0 y1) (r8_digits.j0 (k + 1) y0 y1))
 | 0 => fun _ _ r h => by simp [r8_digits.j0] at h
 | k + 1 => by
  have ih0 := r8_digits.mono_l k
  ·
   intro y0 y1
   unfold r8_digits.j0
   repeat' first
   | (with_reducible first | exact ih0 _ _ | exact LeO.refl _ | exact LeO.none _ | refine LeO.ite ?_ ?_ | refine LeO.bind ?_ (fun _ => ?_))
   | exact ih0 _ _
   | exact LeO.none _
   | refine LeO.ite ?_ ?_
   | refine LeO.bind ?_ (fun _ => ?_)
theorem r8_digits.mono : ∀ a0 k, LeO (r8_digits.f k a0) (r8_digits.f (k + 1) a0) := by
 intro a0 k
 have ih0 := r8_digits.mono_l k
 unfold r8_digits.f
 repeat' first
   | (with_reducible first | exact ih0 _ _ | exact LeO.refl _ | exact LeO.none _ | refine LeO.ite ?_ ?_ | refine LeO.bind ?_ (fun _ => ?_))
   | exact ih0 _ _
   | exact LeO.none _
   | refine LeO.ite ?_ ?_
   | refine LeO.bind ?_ (fun _ => ?_)
theorem r8_digits.calls (k : Nat) (a0 : ByteArray) (r : Int) (w : World) (h : r8_digits.f k a0 = some r) :
  Calls Tryz.prog 128 #[.string a0] w fun e w' => e = .returned (.int .i64 r) ∧ Drawn0 w w' := by
 have H : (if (a0.size : Int) = 1 then (if 0 < (a0.size : Int) then (if (bt a0 0) ≥ 48 then (r8_digits.j0 k a0 (decide ((bt a0 0) ≤ 57))) else (r8_digits.j0 k a0 false)) else (none)) else (r8_digits.j0 k a0 false)) = some r := h
 clear h
 have HC2 := aK H
 clear H
 go_enter Tryz.func128, Tryz.ntmps128
 go_upto_region 1 with (fail)
 repeat (go_quiet (fail); go_upto_region 1 with (fail))
 go_cut [15] (fun v15 wc => ∃ (kq : Nat) (x15_1 : Bool), v15 = .bool x15_1 ∧ Aside0 (r8_digits.j0 kq a0 x15_1 = some r) ∧ Aside0 (kq ≤ k) ∧ Drawn0 w wc)
 case first =>
  have H := HC2.out; clear HC2
  by_cases c3 : (a0.size : Int) = 1
  rotate_left
  ·
   rw [if_neg c3] at H; obtain ⟨c3b0, c3b1⟩ := bN c3
   (first | rw [c3b0] | (simp only [i64_w, i32_w]; rw [c3b0]) | skip)
   have H' := aK H; clear H
   go_wp2
   repeat (go_quiet (fail); try go_wp2)
   go_meet
   case rel => exact ⟨_, (false), sX, H', ⟨by first | omega | exact Nat.le_refl _⟩, dX⟩
  rw [if_pos c3] at H; obtain ⟨c3b0, c3b1⟩ := bY c3; clear c3
  (first | rw [c3b0] | (simp only [i64_w, i32_w]; rw [c3b0]) | skip)
  by_cases c4 : 0 < (a0.size : Int)
  rotate_left
  ·
   rw [if_neg c4] at H
   exact absurd H (by simp)
  rw [if_pos c4] at H; have c4b0 : decide (0 < (a0.size : Int)) = true := decide_eq_true c4
  have c4b1 : decide (0 < a0.size) = true := decide_eq_true (by omega)
  clear c4
  by_cases c6 : (bt a0 0) ≥ 48
  rotate_left
  ·
   rw [if_neg c6] at H; have c6b0 : decide (48 ≤ (bt a0 0)) = false := decide_eq_false c6; clear c6; have H' := aK H; clear H
   have p5 : 0 ≤ (0 : Int) := (by omega)
   have q5 : 0 < a0.size := (by have : (0 : Int) < (a0.size : Int) := oA; omega)
   have hx5 : ∀ h : 0 < a0.size, ((a0[0]'h).toNat : Int) = bt a0 0 := bt_at a0 0
   clear p5
   have qi5 : (0 < (a0.size : Int)) = True := eq_true (oA)
   replace q5 := eq_true q5
   go_wp2
   repeat (go_quiet (fail); try go_wp2)
   go_meet
   case rel => exact ⟨_, (false), sX, H', ⟨by first | omega | exact Nat.le_refl _⟩, dX⟩
  rw [if_pos c6] at H; have c6b0 : decide (48 ≤ (bt a0 0)) = true := decide_eq_true c6; clear c6; have H' := aK H; clear H
  have p5 : 0 ≤ (0 : Int) := (by omega)
  have q5 : 0 < a0.size := (by have : (0 : Int) < (a0.size : Int) := oA; omega)
  have hx5 : ∀ h : 0 < a0.size, ((a0[0]'h).toNat : Int) = bt a0 0 := bt_at a0 0
  clear p5
  have qi5 : (0 < (a0.size : Int)) = True := eq_true (oA)
  replace q5 := eq_true q5
  have p7 : 0 ≤ (0 : Int) := (by omega)
  have q7 : 0 < a0.size := (by have : (0 : Int) < (a0.size : Int) := oA; omega)
  have hx7 : ∀ h : 0 < a0.size, ((a0[0]'h).toNat : Int) = bt a0 0 := bt_at a0 0
  clear p7
  have qi7 : (0 < (a0.size : Int)) = True := eq_true (oA)
  replace q7 := eq_true q7
  go_wp2
  repeat (go_quiet (fail); try go_wp2)
  go_meet
  case rel => exact ⟨_, (decide ((bt a0 0) ≤ 57)), sX, H', ⟨by first | omega | exact Nat.le_refl _⟩, dX⟩
 case rest =>
  clear HC2
  try clear c1
  try clear p2
  try clear c3
  try clear c3b0
  try clear c3b1
  try clear c4
  try clear c4b0
  try clear c4b1
  try clear p5
  try clear q5
  try clear hx5
  try clear qi5
  try clear c6
  try clear c6b0
  try clear p7
  try clear q7
  try clear hx7
  try clear qi7
  try clear p5
  try clear p7
  try clear q5
  try clear q7
  obtain ⟨kq, x15_1, rfl, HA, HJ1, ⟨mc1, rfl⟩⟩ := hcut
  cases kq with
  | zero => exact absurd HA.out (by simp [r8_digits.j0])
  | succ kj1 =>
   have H := HA.out; clear HA
   simp only [r8_digits.j0] at H
   by_cases c8 : x15_1 = true
   rotate_left
   ·
    replace c8 := Bool.eq_false_iff.mpr c8; subst c8
    have H1 : (if (a0.size : Int) = 2 then (if 0 < (a0.size : Int) then (if (bt a0 0) ≥ 49 then (if (bt a0 0) ≤ 57 then (if 1 < (a0.size : Int) then (if (bt a0 1) ≥ 48 then (if (bt a0 1) ≤ 57 then (some ((10 * (((bt a0 0) - 48) % 256)) + (((bt a0 1) - 48) % 256))) else (some (-1))) else (some (-1))) else (none)) else (some (-1))) else (some (-1))) else (none)) else (some (-1))) = some r := by rw [if_neg (show ¬ (false = true) by decide)] at H; exact H
    clear H
    have H := H1
    clear H1
    by_cases c11 : (a0.size : Int) = 2
    rotate_left
    ·
     rw [if_neg c11] at H; obtain ⟨c11b0, c11b1⟩ := bN c11; obtain rfl := oI H
     go_wp2
     repeat (go_quiet (fail); try go_wp2)
     go_ret
     exact ⟨sX, dX⟩
    rw [if_pos c11] at H; obtain ⟨c11b0, c11b1⟩ := bY c11; clear c11
    by_cases c12 : 0 < (a0.size : Int)
    rotate_left
    ·
     rw [if_neg c12] at H
     exact absurd H (by simp)
    rw [if_pos c12] at H; have c12b0 : decide (0 < (a0.size : Int)) = true := decide_eq_true c12
    have c12b1 : decide (0 < a0.size) = true := decide_eq_true (by omega)
    clear c12
    by_cases c14 : (bt a0 0) ≥ 49
    rotate_left
    ·
     rw [if_neg c14] at H; have c14b0 : decide (49 ≤ (bt a0 0)) = false := decide_eq_false c14; clear c14; obtain rfl := oI H
     have p13 : 0 ≤ (0 : Int) := (by omega)
     have q13 : 0 < a0.size := (by have : (0 : Int) < (a0.size : Int) := oA; omega)
     have hx13 : ∀ h : 0 < a0.size, ((a0[0]'h).toNat : Int) = bt a0 0 := bt_at a0 0
     clear p13
     have qi13 : (0 < (a0.size : Int)) = True := eq_true (oA)
     replace q13 := eq_true q13
     go_wp2
     repeat (go_quiet (fail); try go_wp2)
     go_ret
     exact ⟨sX, dX⟩
    rw [if_pos c14] at H; have c14b0 : decide (49 ≤ (bt a0 0)) = true := decide_eq_true c14; clear c14
    by_cases c16 : (bt a0 0) ≤ 57
    rotate_left
    ·
     rw [if_neg c16] at H; have c16b0 : decide ((bt a0 0) ≤ 57) = false := decide_eq_false c16; clear c16; obtain rfl := oI H
     have p13 : 0 ≤ (0 : Int) := (by omega)
     have q13 : 0 < a0.size := (by have : (0 : Int) < (a0.size : Int) := oA; omega)
     have hx13 : ∀ h : 0 < a0.size, ((a0[0]'h).toNat : Int) = bt a0 0 := bt_at a0 0
     clear p13
     have qi13 : (0 < (a0.size : Int)) = True := eq_true (oA)
     replace q13 := eq_true q13
     have p15 : 0 ≤ (0 : Int) := (by omega)
     have q15 : 0 < a0.size := (by have : (0 : Int) < (a0.size : Int) := oA; omega)
     have hx15 : ∀ h : 0 < a0.size, ((a0[0]'h).toNat : Int) = bt a0 0 := bt_at a0 0
     clear p15
     have qi15 : (0 < (a0.size : Int)) = True := eq_true (oA)
     replace q15 := eq_true q15
     go_wp2
     repeat (go_quiet (fail); try go_wp2)
     go_ret
     exact ⟨sX, dX⟩
    rw [if_pos c16] at H; have c16b0 : decide ((bt a0 0) ≤ 57) = true := decide_eq_true c16; clear c16
    by_cases c17 : 1 < (a0.size : Int)
    rotate_left
    ·
     rw [if_neg c17] at H
     exact absurd H (by simp)
    rw [if_pos c17] at H; have c17b0 : decide (1 < (a0.size : Int)) = true := decide_eq_true c17
    have c17b1 : decide (1 < a0.size) = true := decide_eq_true (by omega)
    clear c17
    by_cases c19 : (bt a0 1) ≥ 48
    rotate_left
    ·
     rw [if_neg c19] at H; have c19b0 : decide (48 ≤ (bt a0 1)) = false := decide_eq_false c19; clear c19; obtain rfl := oI H
     have p13 : 0 ≤ (0 : Int) := (by omega)
     have q13 : 0 < a0.size := (by have : (0 : Int) < (a0.size : Int) := oA; omega)
     have hx13 : ∀ h : 0 < a0.size, ((a0[0]'h).toNat : Int) = bt a0 0 := bt_at a0 0
     clear p13
     have qi13 : (0 < (a0.size : Int)) = True := eq_true (oA)
     replace q13 := eq_true q13
     have p15 : 0 ≤ (0 : Int) := (by omega)
     have q15 : 0 < a0.size := (by have : (0 : Int) < (a0.size : Int) := oA; omega)
     have hx15 : ∀ h : 0 < a0.size, ((a0[0]'h).toNat : Int) = bt a0 0 := bt_at a0 0
     clear p15
     have qi15 : (0 < (a0.size : Int)) = True := eq_true (oA)
     replace q15 := eq_true q15
     have p18 : 0 ≤ (1 : Int) := (by omega)
     have q18 : 1 < a0.size := (by have : (1 : Int) < (a0.size : Int) := oA; omega)
     have hx18 : ∀ h : 1 < a0.size, ((a0[1]'h).toNat : Int) = bt a0 1 := bt_at a0 1
     clear p18
     have qi18 : (1 < (a0.size : Int)) = True := eq_true (oA)
     replace q18 := eq_true q18
     go_wp2
     repeat (go_quiet (fail); try go_wp2)
     go_ret
     exact ⟨sX, dX⟩
    rw [if_pos c19] at H; have c19b0 : decide (48 ≤ (bt a0 1)) = true := decide_eq_true c19; clear c19
    by_cases c21 : (bt a0 1) ≤ 57
    rotate_left
    ·
     rw [if_neg c21] at H; have c21b0 : decide ((bt a0 1) ≤ 57) = false := decide_eq_false c21; clear c21; obtain rfl := oI H
     have p13 : 0 ≤ (0 : Int) := (by omega)
     have q13 : 0 < a0.size := (by have : (0 : Int) < (a0.size : Int) := oA; omega)
     have hx13 : ∀ h : 0 < a0.size, ((a0[0]'h).toNat : Int) = bt a0 0 := bt_at a0 0
     clear p13
     have qi13 : (0 < (a0.size : Int)) = True := eq_true (oA)
     replace q13 := eq_true q13
     have p15 : 0 ≤ (0 : Int) := (by omega)
     have q15 : 0 < a0.size := (by have : (0 : Int) < (a0.size : Int) := oA; omega)
     have hx15 : ∀ h : 0 < a0.size, ((a0[0]'h).toNat : Int) = bt a0 0 := bt_at a0 0
     clear p15
     have qi15 : (0 < (a0.size : Int)) = True := eq_true (oA)
     replace q15 := eq_true q15
     have p18 : 0 ≤ (1 : Int) := (by omega)
     have q18 : 1 < a0.size := (by have : (1 : Int) < (a0.size : Int) := oA; omega)
     have hx18 : ∀ h : 1 < a0.size, ((a0[1]'h).toNat : Int) = bt a0 1 := bt_at a0 1
     clear p18
     have qi18 : (1 < (a0.size : Int)) = True := eq_true (oA)
     replace q18 := eq_true q18
     have p20 : 0 ≤ (1 : Int) := (by omega)
     have q20 : 1 < a0.size := (by have : (1 : Int) < (a0.size : Int) := oA; omega)
     have hx20 : ∀ h : 1 < a0.size, ((a0[1]'h).toNat : Int) = bt a0 1 := bt_at a0 1
     clear p20
     have qi20 : (1 < (a0.size : Int)) = True := eq_true (oA)
     replace q20 := eq_true q20
     go_wp2
     repeat (go_quiet (fail); try go_wp2)
     go_ret
     exact ⟨sX, dX⟩
    rw [if_pos c21] at H; have c21b0 : decide ((bt a0 1) ≤ 57) = true := decide_eq_true c21; clear c21; obtain rfl := oI H
    have p13 : 0 ≤ (0 : Int) := (by omega)
    have q13 : 0 < a0.size := (by have : (0 : Int) < (a0.size : Int) := oA; omega)
    have hx13 : ∀ h : 0 < a0.size, ((a0[0]'h).toNat : Int) = bt a0 0 := bt_at a0 0
    clear p13
    have qi13 : (0 < (a0.size : Int)) = True := eq_true (oA)
    replace q13 := eq_true q13
    have p15 : 0 ≤ (0 : Int) := (by omega)
    have q15 : 0 < a0.size := (by have : (0 : Int) < (a0.size : Int) := oA; omega)
    have hx15 : ∀ h : 0 < a0.size, ((a0[0]'h).toNat : Int) = bt a0 0 := bt_at a0 0
    clear p15
    have qi15 : (0 < (a0.size : Int)) = True := eq_true (oA)
    replace q15 := eq_true q15
    have p18 : 0 ≤ (1 : Int) := (by omega)
    have q18 : 1 < a0.size := (by have : (1 : Int) < (a0.size : Int) := oA; omega)
    have hx18 : ∀ h : 1 < a0.size, ((a0[1]'h).toNat : Int) = bt a0 1 := bt_at a0 1
    clear p18
    have qi18 : (1 < (a0.size : Int)) = True := eq_true (oA)
    replace q18 := eq_true q18
    have p20 : 0 ≤ (1 : Int) := (by omega)
    have q20 : 1 < a0.size := (by have : (1 : Int) < (a0.size : Int) := oA; omega)
    have hx20 : ∀ h : 1 < a0.size, ((a0[1]'h).toNat : Int) = bt a0 1 := bt_at a0 1
    clear p20
    have qi20 : (1 < (a0.size : Int)) = True := eq_true (oA)
    replace q20 := eq_true q20
    have p22 : 0 ≤ (0 : Int) := (by omega)
    have q22 : 0 < a0.size := (by have : (0 : Int) < (a0.size : Int) := oA; omega)
    have hx22 : ∀ h : 0 < a0.size, ((a0[0]'h).toNat : Int) = bt a0 0 := bt_at a0 0
    clear p22
    have qi22 : (0 < (a0.size : Int)) = True := eq_true (oA)
    replace q22 := eq_true q22
    have p23 : 0 ≤ (1 : Int) := (by omega)
    have q23 : 1 < a0.size := (by have : (1 : Int) < (a0.size : Int) := oA; omega)
    have hx23 : ∀ h : 1 < a0.size, ((a0[1]'h).toNat : Int) = bt a0 1 := bt_at a0 1
    clear p23
    have qi23 : (1 < (a0.size : Int)) = True := eq_true (oA)
    replace q23 := eq_true q23
    go_wp2
    repeat (go_quiet (fail); try go_wp2)
    go_ret
    exact ⟨sX, dX⟩
   subst c8
   have H1 : (if 0 < (a0.size : Int) then (some (((bt a0 0) - 48) % 256)) else (none)) = some r := by rw [if_pos rfl] at H; exact H
   clear H
   have H := H1
   clear H1
   by_cases c9 : 0 < (a0.size : Int)
   rotate_left
   ·
    rw [if_neg c9] at H
    exact absurd H (by simp)
   rw [if_pos c9] at H; have c9b0 : decide (0 < (a0.size : Int)) = true := decide_eq_true c9
   have c9b1 : decide (0 < a0.size) = true := decide_eq_true (by omega)
   clear c9; obtain rfl := oI H
   have p10 : 0 ≤ (0 : Int) := (by omega)
   have q10 : 0 < a0.size := (by have : (0 : Int) < (a0.size : Int) := oA; omega)
   have hx10 : ∀ h : 0 < a0.size, ((a0[0]'h).toNat : Int) = bt a0 0 := bt_at a0 0
   clear p10
   have qi10 : (0 < (a0.size : Int)) = True := eq_true (oA)
   replace q10 := eq_true q10
   go_wp2
   repeat (go_quiet (fail); try go_wp2)
   go_ret
   exact ⟨sX, dX⟩
end Go.Proofs.YtbpbniemjjhecaaGreat.PChk
