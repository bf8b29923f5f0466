-- Written by a program of this session (prt.py), out of the translation. Lean checks it.
import Derived.Test.YtnepacpbpbbbhaaDoorPCell0
namespace Go.Proofs.YtnepacpbpbbbhaaDoor.PCell
open Go.RowKit Go.Proofs.YtnepacpbpbbbhaaDoor.G Go.Proofs.YtnepacpbpbbbhaaDoorW.PrintWords Go.Proofs.YtnepacpbpbbbhaaDoorW.PrintLast Go.Proofs.YtnepacpbpbbbhaaDoorW.PrintMore
attribute [local go_sem] max2_int min2_int max_two min_two max_three min_three max_four min_four   -- for this text's walks alone
set_option linter.unusedVariables false
set_option linter.unusedSimpArgs false

/-! ### cell_may: function 39 -/
def cell_may.f (a0 : Int) : Option (Bool) := some ((a0 / 64) == 0)
set_option maxHeartbeats 8000000 in
set_option maxRecDepth 100000 in
theorem cell_may.calls (a0 : Int) (r : Bool) (w : World) (h : cell_may.f a0 = some r) :
    Calls Tryd.prog 39 #[.int .u8 a0] w fun e w' => e = .returned (.bool r) ∧ Drawn0 w w' := by
  have H : (some ((a0 / 64) == 0)) = some r := h
  clear h
  obtain rfl := Option.some.inj H
  go_enter Tryd.func39, Tryd.ntmps39
  go_wp2
  go_ret
  exact ⟨by first | rfl | (simp; done) | (simp [*]; done), by repeat (first | exact Drawn0.refl _ | apply Drawn0.step)⟩

/-! ### cell_Sign: function 12 -/
def cell_Sign.f (a0 : Int) : Option (Int × Bool) := (cell_may.f a0).bind fun t101 => (if t101 = true then (if 0 ≤ a0 then (if a0 < 64 then (some (bt (⟨#[32, 65, 49, 66, 39, 75, 50, 76, 64, 67, 73, 70, 47, 77, 83, 80, 34, 69, 51, 72, 57, 79, 54, 82, 94, 68, 74, 71, 62, 78, 84, 81, 44, 42, 53, 60, 45, 85, 56, 86, 46, 37, 91, 36, 43, 88, 33, 38, 59, 58, 52, 92, 48, 90, 55, 40, 95, 63, 87, 93, 35, 89, 41, 61]⟩ : ByteArray) a0, true)) else (none)) else (none)) else (some (0, false)))
set_option maxHeartbeats 8000000 in
set_option maxRecDepth 100000 in
theorem cell_Sign.calls (a0 : Int) (r1 : Int) (r2 : Bool) (w : World) (h : cell_Sign.f a0 = some (r1, r2)) :
    Calls Tryd.prog 12 #[.int .u8 a0] w fun e w' => e = .returned (.tuple #[.int .u8 r1, .bool r2]) ∧ Drawn0 w w' := by
  have H : ((cell_may.f a0).bind fun t101 => (if t101 = true then (if 0 ≤ a0 then (if a0 < 64 then (some (bt (⟨#[32, 65, 49, 66, 39, 75, 50, 76, 64, 67, 73, 70, 47, 77, 83, 80, 34, 69, 51, 72, 57, 79, 54, 82, 94, 68, 74, 71, 62, 78, 84, 81, 44, 42, 53, 60, 45, 85, 56, 86, 46, 37, 91, 36, 43, 88, 33, 38, 59, 58, 52, 92, 48, 90, 55, 40, 95, 63, 87, 93, 35, 89, 41, 61]⟩ : ByteArray) a0, true)) else (none)) else (none)) else (some (0, false)))) = some (r1, r2) := h
  clear h
  replace H := Option.bind_eq_some_iff.mp H
  obtain ⟨t101, A20, H⟩ := H
  replace H : (if t101 = true then (if 0 ≤ a0 then (if a0 < 64 then (some (bt (⟨#[32, 65, 49, 66, 39, 75, 50, 76, 64, 67, 73, 70, 47, 77, 83, 80, 34, 69, 51, 72, 57, 79, 54, 82, 94, 68, 74, 71, 62, 78, 84, 81, 44, 42, 53, 60, 45, 85, 56, 86, 46, 37, 91, 36, 43, 88, 33, 38, 59, 58, 52, 92, 48, 90, 55, 40, 95, 63, 87, 93, 35, 89, 41, 61]⟩ : ByteArray) a0, true)) else (none)) else (none)) else (some (0, false))) = some (r1, r2) := H
  have A2 := Aside0.mk A20
  clear A20
  by_cases c3 : t101 = true
  · subst c3
    have H1 : (if 0 ≤ a0 then (if a0 < 64 then (some (bt (⟨#[32, 65, 49, 66, 39, 75, 50, 76, 64, 67, 73, 70, 47, 77, 83, 80, 34, 69, 51, 72, 57, 79, 54, 82, 94, 68, 74, 71, 62, 78, 84, 81, 44, 42, 53, 60, 45, 85, 56, 86, 46, 37, 91, 36, 43, 88, 33, 38, 59, 58, 52, 92, 48, 90, 55, 40, 95, 63, 87, 93, 35, 89, 41, 61]⟩ : ByteArray) a0, true)) else (none)) else (none)) = some (r1, r2) := by rw [if_pos rfl] at H; exact H
    clear H
    have H := H1
    clear H1
    by_cases c4 : 0 ≤ a0
    · rw [if_pos c4] at H
      have c4b0 : decide (0 ≤ a0) = true := decide_eq_true c4
      clear c4
      by_cases c5 : a0 < 64
      · rw [if_pos c5] at H
        have c5b0 : decide (a0 < 64) = true := decide_eq_true c5
        clear c5
        simp only [Option.some.injEq, Prod.mk.injEq] at H
        obtain ⟨rfl, rfl⟩ := H
        go_enter Tryd.func12, Tryd.ntmps12
        go_wp2_with (first | ((with_reducible refine gate_callee (f := 39) rfl ?_); refine goesL_ (some 5) rfl rfl Tryd.func39 (by kernel_rfl) rfl #[.int .u8 a0] rfl (by (try simp only [List.map_toArray, List.map_cons, List.map_nil]); first | done | rfl | (simp only [List.length_drop, List.length_take]; rfl)) ?_; (with_reducible refine (cell_may.calls a0 true _ A2.out).mono ?_); rintro e w' ⟨rfl, ⟨nd, rfl⟩⟩; refine ⟨_, rfl, ?_⟩; have p6 : 0 ≤ (a0 : Int) := of_decide_eq_true (by first | (with_reducible assumption) | assumption); have q6 : a0 < (64 : Int) := of_decide_eq_true (by first | (with_reducible assumption) | assumption); have hx6 := bt_at (⟨#[32, 65, 49, 66, 39, 75, 50, 76, 64, 67, 73, 70, 47, 77, 83, 80, 34, 69, 51, 72, 57, 79, 54, 82, 94, 68, 74, 71, 62, 78, 84, 81, 44, 42, 53, 60, 45, 85, 56, 86, 46, 37, 91, 36, 43, 88, 33, 38, 59, 58, 52, 92, 48, 90, 55, 40, 95, 63, 87, 93, 35, 89, 41, 61]⟩ : ByteArray) a0; replace p6 := eq_true p6; replace q6 := eq_true q6))
        go_ret2
        exact ⟨by first | rfl | (simp; done) | (simp [*]; done), by repeat (first | exact Drawn0.refl _ | apply Drawn0.step)⟩
      · rw [if_neg c5] at H
        exact absurd H (by simp)
    · rw [if_neg c4] at H
      exact absurd H (by simp)
  · replace c3 := Bool.eq_false_iff.mpr c3
    subst c3
    have H1 : (some (0, false)) = some (r1, r2) := by rw [if_neg (show ¬ (false = true) by decide)] at H; exact H
    clear H
    have H := H1
    clear H1
    simp only [Option.some.injEq, Prod.mk.injEq] at H
    obtain ⟨rfl, rfl⟩ := H
    go_enter Tryd.func12, Tryd.ntmps12
    go_wp2_with (first | ((with_reducible refine gate_callee (f := 39) rfl ?_); refine goesL_ (some 5) rfl rfl Tryd.func39 (by kernel_rfl) rfl #[.int .u8 a0] rfl (by (try simp only [List.map_toArray, List.map_cons, List.map_nil]); first | done | rfl | (simp only [List.length_drop, List.length_take]; rfl)) ?_; (with_reducible refine (cell_may.calls a0 false _ A2.out).mono ?_); rintro e w' ⟨rfl, ⟨nd, rfl⟩⟩; refine ⟨_, rfl, ?_⟩))
    go_ret2
    exact ⟨by first | rfl | (simp; done) | (simp [*]; done), by repeat (first | exact Drawn0.refl _ | apply Drawn0.step)⟩

/-! ### cell_From: function 14 -/
def cell_From.f (a0 : Int) : Option (Int × Bool) := (strings_IndexByte.f (⟨#[32, 65, 49, 66, 39, 75, 50, 76, 64, 67, 73, 70, 47, 77, 83, 80, 34, 69, 51, 72, 57, 79, 54, 82, 94, 68, 74, 71, 62, 78, 84, 81, 44, 42, 53, 60, 45, 85, 56, 86, 46, 37, 91, 36, 43, 88, 33, 38, 59, 58, 52, 92, 48, 90, 55, 40, 95, 63, 87, 93, 35, 89, 41, 61]⟩ : ByteArray) a0).bind fun t102 => (if t102 < 0 then (some (0, false)) else (some ((t102) % 256, true)))
set_option maxHeartbeats 8000000 in
set_option maxRecDepth 100000 in
theorem cell_From.calls (a0 : Int) (r1 : Int) (r2 : Bool) (w : World) (h : cell_From.f a0 = some (r1, r2)) :
    Calls Tryd.prog 14 #[.int .u8 a0] w fun e w' => e = .returned (.tuple #[.int .u8 r1, .bool r2]) ∧ Drawn0 w w' := by
  have H : ((strings_IndexByte.f (⟨#[32, 65, 49, 66, 39, 75, 50, 76, 64, 67, 73, 70, 47, 77, 83, 80, 34, 69, 51, 72, 57, 79, 54, 82, 94, 68, 74, 71, 62, 78, 84, 81, 44, 42, 53, 60, 45, 85, 56, 86, 46, 37, 91, 36, 43, 88, 33, 38, 59, 58, 52, 92, 48, 90, 55, 40, 95, 63, 87, 93, 35, 89, 41, 61]⟩ : ByteArray) a0).bind fun t102 => (if t102 < 0 then (some (0, false)) else (some ((t102) % 256, true)))) = some (r1, r2) := h
  clear h
  replace H := Option.bind_eq_some_iff.mp H
  obtain ⟨t102, A20, H⟩ := H
  replace H : (if t102 < 0 then (some (0, false)) else (some ((t102) % 256, true))) = some (r1, r2) := H
  have A2 := Aside0.mk A20
  clear A20
  by_cases c3 : t102 < 0
  · rw [if_pos c3] at H
    have c3b0 : decide (t102 < 0) = true := decide_eq_true c3
    clear c3
    simp only [Option.some.injEq, Prod.mk.injEq] at H
    obtain ⟨rfl, rfl⟩ := H
    go_enter Tryd.func14, Tryd.ntmps14
    go_wp2_with (first | ((with_reducible refine gate_callee (f := 41) rfl ?_); refine goesL_ (some 6) rfl rfl Tryd.func41 (by kernel_rfl) rfl #[.string (⟨#[32, 65, 49, 66, 39, 75, 50, 76, 64, 67, 73, 70, 47, 77, 83, 80, 34, 69, 51, 72, 57, 79, 54, 82, 94, 68, 74, 71, 62, 78, 84, 81, 44, 42, 53, 60, 45, 85, 56, 86, 46, 37, 91, 36, 43, 88, 33, 38, 59, 58, 52, 92, 48, 90, 55, 40, 95, 63, 87, 93, 35, 89, 41, 61]⟩ : ByteArray), .int .u8 a0] rfl (by (try simp only [List.map_toArray, List.map_cons, List.map_nil]); first | done | rfl | (simp only [List.length_drop, List.length_take]; rfl)) ?_; (with_reducible refine (strings_IndexByte.calls (⟨#[32, 65, 49, 66, 39, 75, 50, 76, 64, 67, 73, 70, 47, 77, 83, 80, 34, 69, 51, 72, 57, 79, 54, 82, 94, 68, 74, 71, 62, 78, 84, 81, 44, 42, 53, 60, 45, 85, 56, 86, 46, 37, 91, 36, 43, 88, 33, 38, 59, 58, 52, 92, 48, 90, 55, 40, 95, 63, 87, 93, 35, 89, 41, 61]⟩ : ByteArray) a0 t102 _ A2.out).mono ?_); rintro e w' ⟨rfl, ⟨nd, rfl⟩⟩; refine ⟨_, rfl, ?_⟩))
    go_ret2
    exact ⟨by first | rfl | (simp; done) | (simp [*]; done), by repeat (first | exact Drawn0.refl _ | apply Drawn0.step)⟩
  · rw [if_neg c3] at H
    have c3b0 : decide (t102 < 0) = false := decide_eq_false c3
    clear c3
    simp only [Option.some.injEq, Prod.mk.injEq] at H
    obtain ⟨rfl, rfl⟩ := H
    go_enter Tryd.func14, Tryd.ntmps14
    go_wp2_with (first | ((with_reducible refine gate_callee (f := 41) rfl ?_); refine goesL_ (some 6) rfl rfl Tryd.func41 (by kernel_rfl) rfl #[.string (⟨#[32, 65, 49, 66, 39, 75, 50, 76, 64, 67, 73, 70, 47, 77, 83, 80, 34, 69, 51, 72, 57, 79, 54, 82, 94, 68, 74, 71, 62, 78, 84, 81, 44, 42, 53, 60, 45, 85, 56, 86, 46, 37, 91, 36, 43, 88, 33, 38, 59, 58, 52, 92, 48, 90, 55, 40, 95, 63, 87, 93, 35, 89, 41, 61]⟩ : ByteArray), .int .u8 a0] rfl (by (try simp only [List.map_toArray, List.map_cons, List.map_nil]); first | done | rfl | (simp only [List.length_drop, List.length_take]; rfl)) ?_; (with_reducible refine (strings_IndexByte.calls (⟨#[32, 65, 49, 66, 39, 75, 50, 76, 64, 67, 73, 70, 47, 77, 83, 80, 34, 69, 51, 72, 57, 79, 54, 82, 94, 68, 74, 71, 62, 78, 84, 81, 44, 42, 53, 60, 45, 85, 56, 86, 46, 37, 91, 36, 43, 88, 33, 38, 59, 58, 52, 92, 48, 90, 55, 40, 95, 63, 87, 93, 35, 89, 41, 61]⟩ : ByteArray) a0 t102 _ A2.out).mono ?_); rintro e w' ⟨rfl, ⟨nd, rfl⟩⟩; refine ⟨_, rfl, ?_⟩))
    go_ret2
    exact ⟨by first | rfl | (simp; done) | (simp [*]; done), by repeat (first | exact Drawn0.refl _ | apply Drawn0.step)⟩

/-! ### cell_Dots: function 17 -/
def cell_Dots.l0 : Nat → Int → List Int → Int → Option (ByteArray)
  | 0, _, _, _ => none
  | k + 1, x0, x3, x5 => if x5 < 6 then (if 0 ≤ x5 then (if (Go.bits .and .u8 (shr .u8 x0 x5) 1) = 1 then (if x3.length < 140737488355328 then (cell_Dots.l0 k x0 (x3 ++ [(wrap64 (49 + x5)) % 256]) (wrap64 (x5 + 1))) else (none)) else (cell_Dots.l0 k x0 x3 (wrap64 (x5 + 1)))) else (none)) else (some (strOfNums x3))
def cell_Dots.f (k : Nat) (a0 : Int) : Option (ByteArray) := cell_Dots.l0 k a0 ([] : List Int) 0
theorem cell_Dots.mono_l : ∀ k, (∀ y0 y1 y2, LeO (cell_Dots.l0 k y0 y1 y2) (cell_Dots.l0 (k + 1) y0 y1 y2))
  | 0 => fun _ _ _ r h => by simp [cell_Dots.l0] at h
  | k + 1 => by
    have ih0 := cell_Dots.mono_l k
    · intro y0 y1 y2
      unfold cell_Dots.l0
      repeat' first
      | (with_reducible exact ih0 _ _ _)
      | (with_reducible exact LeO.refl _)
      | (with_reducible exact LeO.none _)
      | (with_reducible refine LeO.ite ?_ ?_)
      | (with_reducible refine LeO.bind ?_ (fun _ => ?_))
      | exact ih0 _ _ _
      | exact LeO.none _
      | refine LeO.ite ?_ ?_
      | refine LeO.bind ?_ (fun _ => ?_)
theorem cell_Dots.mono : ∀ a0 k, LeO (cell_Dots.f k a0) (cell_Dots.f (k + 1) a0) := by
  intro a0 k
  have ih0 := cell_Dots.mono_l k
  unfold cell_Dots.f
  repeat' first
      | (with_reducible exact ih0 _ _ _)
      | (with_reducible exact LeO.refl _)
      | (with_reducible exact LeO.none _)
      | (with_reducible refine LeO.ite ?_ ?_)
      | (with_reducible refine LeO.bind ?_ (fun _ => ?_))
      | exact ih0 _ _ _
      | exact LeO.none _
      | refine LeO.ite ?_ ?_
      | refine LeO.bind ?_ (fun _ => ?_)
set_option maxHeartbeats 8000000 in
set_option maxRecDepth 100000 in
theorem cell_Dots.calls (k : Nat) (a0 : Int) (r : ByteArray) (w : World) (h : cell_Dots.f k a0 = some r) :
    Calls Tryd.prog 17 #[.int .u8 a0] w fun e w' => e = .returned (.string r) ∧ Below w.heap.size w w' := by
  have HB := Aside0.mk (Below.refl w.heap.size w)
  have H : (cell_Dots.l0 k a0 ([] : List Int) 0) = some r := h
  clear h
  have H' := Aside0.mk H
  clear H
  go_enter Tryd.func17, Tryd.ntmps17
  go_wp2
  go_loopg [3, 5] k (fun kq v3 v5 w' => ∃ (x3_1 : List Int) (x5_1 : Int), v5 = .int .i64 x5_1 ∧ Aside0 (cell_Dots.l0 kq a0 x3_1 x5_1 = some r) ∧ Aside0 (kq ≤ k) ∧ Aside0 (Kd.R (Kd.int .u8) 5 w' w.heap.size (fun _ => True) v3 x3_1) ∧ Aside0 (Below w.heap.size w w'))
  case atStart => exact ⟨(([] : List Int)), (0), (by first | rfl | (simp; done) | (simp [*]; done)), H', ⟨Nat.le_refl _⟩, ⟨by first | exact Kd.R_nil _ _ _ _ _ | exact Kd.N_nil _ _ _ _ _ | exact Kd.V_nil _ _ _ _ _ | exact Kd.Q_nil _ _ _ _ _ | exact Kd.S_nil _ _ _ _ _⟩, ⟨by repeat (first | (with_reducible first | exact HB.out | apply below_alloc | apply pw_below_drewN | apply below_drew1) | exact HB.out)⟩⟩
  case round =>
    clear H'
    try clear c1
    obtain ⟨x3_1, x5_1, rfl, HA, HK1, HO_3, HB⟩ := hrel
    cases gk with
    | zero => exact absurd HA.out (by simp [cell_Dots.l0])
    | succ k1 =>
      have H := HA.out
      clear HA
      simp only [cell_Dots.l0] at H
      by_cases c2 : x5_1 < 6
      · rw [if_pos c2] at H
        have c2b0 : decide (x5_1 < 6) = true := decide_eq_true c2
        clear c2
        by_cases c3 : 0 ≤ x5_1
        · rw [if_pos c3] at H
          have c3b0 := eq_true c3
          have c3b1 : decide (0 ≤ x5_1) = true := decide_eq_true c3
          clear c3
          obtain ⟨ji4, hji4⟩ : ∃ j_ : Int, (shr .u8 a0 x5_1) = j_ := ⟨_, rfl⟩
          replace H : (if (Go.bits .and .u8 (ji4) 1) = 1 then (if x3_1.length < 140737488355328 then (cell_Dots.l0 k1 a0 (x3_1 ++ [(wrap64 (49 + x5_1)) % 256]) (wrap64 (x5_1 + 1))) else (none)) else (cell_Dots.l0 k1 a0 x3_1 (wrap64 (x5_1 + 1)))) = some r := by first | (rw [hji4] at H; exact H) | (simp only [hji4] at H ⊢; exact H)
          have hji4_ : (a0 / 2 ^ min x5_1.toNat 8) = ji4 := hji4
          have hji4z : x5_1 ≤ 8 → (a0 / 2 ^ x5_1.toNat) = ji4 := shr_small hji4
          by_cases c5 : (Go.bits .and .u8 (ji4) 1) = 1
          · rw [if_pos c5] at H
            have c5b0 : ((Go.bits .and .u8 (ji4) 1) == 1) = true := beq_iff_eq.mpr c5
            have c5b1 : ((Go.bits .and .u8 (ji4) 1) != 1) = false := bne_eq_false_iff_eq.mpr c5
            clear c5
            by_cases c6 : x3_1.length < 140737488355328
            · rw [if_pos c6] at H
              have LMc6 := Aside0.mk c6
              clear c6
              obtain ⟨y103, hy103⟩ : ∃ y_ : List Int, y_ = (x3_1 ++ [(wrap64 (49 + x5_1)) % 256]) := ⟨_, rfl⟩
              replace H : (cell_Dots.l0 k1 a0 y103 (wrap64 (x5_1 + 1))) = some r := by first | (rw [hy103]; with_reducible exact H) | (have H2_ := (Option.bind_some _ _).symm.trans H; rw [hy103]; with_reducible exact H2_) | (have H2_ := (Option.bind_some _ _).symm.trans H; with_reducible exact H2_) | with_reducible exact H | (rw [hy103]; exact H) | exact H
              have Ny103 := Aside0.mk hy103
              clear hy103
              have H' := Aside0.mk H
              clear H
              go_wp2_with (first | ((with_reducible refine gate_builtin (b := .append) (xs := #[.tmp 13, .tmp 17]) rfl ?_); at_builtin; refine Kd.R_append (Kd.int .u8) (w0 := w) w.heap.size rfl (.tmp 13) (.tmp 17) 30 5 (.int .u8 0) 1 rfl Tryd.underlying30 info5 rfl (by decide) (by omega) u3 x3_1 ((wrap64 (49 + x5_1)) % 256) [.int .u8 ((wrap64 (49 + x5_1)) % 256)] (fun _ => True) (fun _ => False) rfl rfl ?aP (fun _ hk => hk.elim) ?aF ?aO ?aB ?aS ?aL ?_; (case aP => exact rfl); (case aB => exact (by repeat (first | (with_reducible first | exact HB.out | apply below_alloc | apply pw_below_drewN | apply below_drew1) | exact HB.out))); (case aF => exact (fun _ _ => trivial)); (case aO => exact (by (with_reducible repeat (first | apply Kd.R_alloc | apply Kd.R_drewN | apply Kd.R_drew)); exact HO_3.out)); (case aS => exact (below_size (by repeat (first | (with_reducible first | exact HB.out | apply below_alloc | apply pw_below_drewN | apply below_drew1) | exact HB.out)))); (case aL => have := LMc6.out; omega); intro v104 w7 ho hb hg hat; rw [← Ny103.out] at ho; have n0_ := Aside0.mk (hb); have n1_ := Aside0.mk (ho); clear HB; clear HO_3; have HB := n0_; have HO105 := n1_; clear n0_ n1_; clear ho hb hg hat))
              go_roundg k1
              case measure => have := HK1.out; omega
              case rel => exact ⟨(y103), (wrap64 (x5_1 + 1)), (by first | rfl | (simp; done) | (simp [*]; done)), H', ⟨by have := HK1.out; omega⟩, ⟨by (with_reducible repeat (first | apply Kd.R_alloc | apply Kd.R_drewN | apply Kd.R_drew)); exact HO105.out⟩, ⟨by repeat (first | (with_reducible first | exact HB.out | apply below_alloc | apply pw_below_drewN | apply below_drew1) | exact HB.out)⟩⟩
            · rw [if_neg c6] at H
              exact absurd H (by simp)
          · rw [if_neg c5] at H
            have c5b0 : ((Go.bits .and .u8 (ji4) 1) == 1) = false := beq_eq_false_iff_ne.mpr c5
            have c5b1 : ((Go.bits .and .u8 (ji4) 1) != 1) = true := bne_iff_ne.mpr c5
            have H' := Aside0.mk H
            clear H
            go_wp2
            go_roundg k1
            case measure => have := HK1.out; omega
            case rel => exact ⟨(x3_1), (wrap64 (x5_1 + 1)), (by first | rfl | (simp; done) | (simp [*]; done)), H', ⟨by have := HK1.out; omega⟩, ⟨by (with_reducible repeat (first | apply Kd.R_alloc | apply Kd.R_drewN | apply Kd.R_drew)); exact HO_3.out⟩, ⟨by repeat (first | (with_reducible first | exact HB.out | apply below_alloc | apply pw_below_drewN | apply below_drew1) | exact HB.out)⟩⟩
        · rw [if_neg c3] at H
          exact absurd H (by simp)
      · rw [if_neg c2] at H
        have c2b0 : decide (x5_1 < 6) = false := decide_eq_false c2
        clear c2
        obtain rfl := Option.some.inj H
        have hcv8 := own_string (P := Tryd.prog) Tryd.underlying30 Tryd.underlying5 Tryd.underlying9 (Kd.own_of_R HO_3.out)
        go_wp2
        go_ret
        exact ⟨by first | rfl | (simp [errW_none, errW_some] <;> rfl) | (simp [*, errW_none, errW_some] <;> rfl), by repeat (first | (with_reducible first | exact HB.out | apply below_alloc | apply pw_below_drewN | apply below_drew1) | exact HB.out)⟩

/-! ### styluslaw02_of: function 19 -/
def styluslaw02_of.f (a0 : ByteArray) (a1 : Int) (a2 : Bool) : Option (Bool) := (cell_Of.f a0).bind fun bt106 => (if bt106.1 = a1 then (some (bt106.2 == a2)) else (some false))
set_option maxHeartbeats 8000000 in
set_option maxRecDepth 100000 in
theorem styluslaw02_of.calls (a0 : ByteArray) (a1 : Int) (a2 : Bool) (r : Bool) (w : World) (h : styluslaw02_of.f a0 a1 a2 = some r) :
    Calls Tryd.prog 19 #[.string a0, .int .u8 a1, .bool a2] w fun e w' => e = .returned (.bool r) ∧ Below w.heap.size w w' := by
  have HB := Aside0.mk (Below.refl w.heap.size w)
  have H : ((cell_Of.f a0).bind fun bt106 => (if bt106.1 = a1 then (some (bt106.2 == a2)) else (some false))) = some r := h
  clear h
  replace H := Option.bind_eq_some_iff.mp H
  obtain ⟨⟨t106, t107⟩, A40, H⟩ := H
  replace H : (if t106 = a1 then (some (t107 == a2)) else (some false)) = some r := H
  have A4 := Aside0.mk A40
  clear A40
  by_cases c5 : t106 = a1
  · rw [if_pos c5] at H
    have c5b0 : (t106 == a1) = true := beq_iff_eq.mpr c5
    have c5b1 : (t106 != a1) = false := bne_eq_false_iff_eq.mpr c5
    clear c5
    obtain rfl := Option.some.inj H
    go_enter Tryd.func19, Tryd.ntmps19
    go_wp2_with (first | ((with_reducible refine gate_callee (f := 20) rfl ?_); refine goesL_ (some 11) rfl rfl Tryd.func20 (by kernel_rfl) rfl #[.string a0] rfl (by (try simp only [List.map_toArray, List.map_cons, List.map_nil]); first | done | rfl | (simp only [List.length_drop, List.length_take]; rfl)) ?_; (with_reducible refine (cell_Of.calls a0 t106 t107 _ A4.out).mono ?_); rintro e w6 ⟨rfl, hb⟩; refine ⟨_, rfl, ?_⟩; have n0_ := Aside0.mk (below_step (by repeat (first | (with_reducible first | exact HB.out | apply below_alloc | apply pw_below_drewN | apply below_drew1) | exact HB.out)) hb); clear HB; have HB := n0_; clear n0_; (try clear hb); (try clear hb2); (try clear hk); (try clear hi)))
    go_ret
    exact ⟨by first | rfl | (simp [errW_none, errW_some] <;> rfl) | (simp [*, errW_none, errW_some] <;> rfl), by repeat (first | (with_reducible first | exact HB.out | apply below_alloc | apply pw_below_drewN | apply below_drew1) | exact HB.out)⟩
  · rw [if_neg c5] at H
    have c5b0 : (t106 == a1) = false := beq_eq_false_iff_ne.mpr c5
    have c5b1 : (t106 != a1) = true := bne_iff_ne.mpr c5
    obtain rfl := Option.some.inj H
    go_enter Tryd.func19, Tryd.ntmps19
    go_wp2_with (first | ((with_reducible refine gate_callee (f := 20) rfl ?_); refine goesL_ (some 11) rfl rfl Tryd.func20 (by kernel_rfl) rfl #[.string a0] rfl (by (try simp only [List.map_toArray, List.map_cons, List.map_nil]); first | done | rfl | (simp only [List.length_drop, List.length_take]; rfl)) ?_; (with_reducible refine (cell_Of.calls a0 t106 t107 _ A4.out).mono ?_); rintro e w7 ⟨rfl, hb⟩; refine ⟨_, rfl, ?_⟩; have n0_ := Aside0.mk (below_step (by repeat (first | (with_reducible first | exact HB.out | apply below_alloc | apply pw_below_drewN | apply below_drew1) | exact HB.out)) hb); clear HB; have HB := n0_; clear n0_; (try clear hb); (try clear hb2); (try clear hk); (try clear hi)))
    go_ret
    exact ⟨by first | rfl | (simp [errW_none, errW_some] <;> rfl) | (simp [*, errW_none, errW_some] <;> rfl), by repeat (first | (with_reducible first | exact HB.out | apply below_alloc | apply pw_below_drewN | apply below_drew1) | exact HB.out)⟩

/-! ### cell_Count: function 21 -/
def cell_Count.l0 : Nat → ByteArray → Int → Int → Int → Option (Int)
  | 0, _, _, _, _ => none
  | k + 1, x0, x3, x6, x7 => if x7 < x6 then (if 0 ≤ x7 then (if x7 < (x0.size : Int) then ((bits_OnesCount8.f (Go.bits .and .u8 (bt x0 x7) 63)).bind fun t108 => (cell_Count.l0 k x0 (wrap64 (x3 + t108)) x6 (wrap64 (x7 + 1)))) else (none)) else (none)) else (some x3)
def cell_Count.f (k : Nat) (a0 : ByteArray) : Option (Int) := cell_Count.l0 k a0 0 (a0.size : Int) 0
theorem cell_Count.mono_l : ∀ k, (∀ y0 y1 y2 y3, LeO (cell_Count.l0 k y0 y1 y2 y3) (cell_Count.l0 (k + 1) y0 y1 y2 y3))
  | 0 => fun _ _ _ _ r h => by simp [cell_Count.l0] at h
  | k + 1 => by
    have ih0 := cell_Count.mono_l k
    · intro y0 y1 y2 y3
      unfold cell_Count.l0
      repeat' first
      | (with_reducible exact ih0 _ _ _ _)
      | (with_reducible exact LeO.refl _)
      | (with_reducible exact LeO.none _)
      | (with_reducible refine LeO.ite ?_ ?_)
      | (with_reducible refine LeO.bind ?_ (fun _ => ?_))
      | exact ih0 _ _ _ _
      | exact LeO.none _
      | refine LeO.ite ?_ ?_
      | refine LeO.bind ?_ (fun _ => ?_)
theorem cell_Count.mono : ∀ a0 k, LeO (cell_Count.f k a0) (cell_Count.f (k + 1) a0) := by
  intro a0 k
  have ih0 := cell_Count.mono_l k
  unfold cell_Count.f
  repeat' first
      | (with_reducible exact ih0 _ _ _ _)
      | (with_reducible exact LeO.refl _)
      | (with_reducible exact LeO.none _)
      | (with_reducible refine LeO.ite ?_ ?_)
      | (with_reducible refine LeO.bind ?_ (fun _ => ?_))
      | exact ih0 _ _ _ _
      | exact LeO.none _
      | refine LeO.ite ?_ ?_
      | refine LeO.bind ?_ (fun _ => ?_)
set_option maxHeartbeats 8000000 in
set_option maxRecDepth 100000 in
theorem cell_Count.calls (k : Nat) (a0 : ByteArray) (r : Int) (w : World) (h : cell_Count.f k a0 = some r) :
    Calls Tryd.prog 21 #[.string a0] w fun e w' => e = .returned (.int .i64 r) ∧ Drawn0 w w' := by
  have H : (cell_Count.l0 k a0 0 (a0.size : Int) 0) = some r := h
  clear h
  have H' := Aside0.mk H
  clear H
  go_enter Tryd.func21, Tryd.ntmps21
  go_wp2
  go_loopg [3, 7] k (fun kq v3 v7 w' => ∃ (x3_1 : Int) (x7_1 : Int), v3 = .int .i64 x3_1 ∧ v7 = .int .i64 x7_1 ∧ Aside0 (cell_Count.l0 kq a0 x3_1 (a0.size : Int) x7_1 = some r) ∧ Aside0 (kq ≤ k) ∧ Drawn0 w w')
  case atStart => exact ⟨(0), (0), (by first | rfl | (simp; done) | (simp [*]; done)), (by first | rfl | (simp; done) | (simp [*]; done)), H', ⟨Nat.le_refl _⟩, by repeat (first | exact Drawn0.refl _ | apply Drawn0.step)⟩
  case round =>
    clear H'
    obtain ⟨x3_1, x7_1, rfl, rfl, HA, HK1, ⟨m1, rfl⟩⟩ := hrel
    cases gk with
    | zero => exact absurd HA.out (by simp [cell_Count.l0])
    | succ k1 =>
      have H := HA.out
      clear HA
      simp only [cell_Count.l0] at H
      by_cases c2 : x7_1 < (a0.size : Int)
      · rw [if_pos c2] at H
        have c2b0 : decide (x7_1 < (a0.size : Int)) = true := decide_eq_true c2
        clear c2
        by_cases c3 : 0 ≤ x7_1
        · rw [if_pos c3] at H
          have c3b0 : decide (0 ≤ x7_1) = true := decide_eq_true c3
          clear c3
          by_cases c4 : x7_1 < (a0.size : Int)
          · rw [if_pos c4] at H
            have c4b0 : decide (x7_1 < (a0.size : Int)) = true := decide_eq_true c4
            clear c4
            replace H := Option.bind_eq_some_iff.mp H
            obtain ⟨t108, A60, H⟩ := H
            replace H : (cell_Count.l0 k1 a0 (wrap64 (x3_1 + t108)) (a0.size : Int) (wrap64 (x7_1 + 1))) = some r := H
            have A6 := Aside0.mk A60
            clear A60
            have H' := Aside0.mk H
            clear H
            have p5 : 0 ≤ (x7_1 : Int) := of_decide_eq_true (by first | (with_reducible assumption) | assumption)
            have q5 : x7_1 < (a0.size : Int) := of_decide_eq_true (by first | (with_reducible assumption) | assumption)
            have hx5 := bt_at a0 x7_1
            replace p5 := eq_true p5
            replace q5 := eq_true q5
            go_wp2_with (first | ((with_reducible refine gate_callee (f := 43) rfl ?_); refine goesL_ (some 15) rfl rfl Tryd.func43 (by kernel_rfl) rfl #[.int .u8 (Go.bits .and .u8 (bt a0 x7_1) 63)] rfl (by (try simp only [List.map_toArray, List.map_cons, List.map_nil]); first | done | rfl | (simp only [List.length_drop, List.length_take]; rfl)) ?_; (with_reducible refine (bits_OnesCount8.calls (Go.bits .and .u8 (bt a0 x7_1) 63) t108 _ A6.out).mono ?_); rintro e w' ⟨rfl, ⟨nd, rfl⟩⟩; refine ⟨_, rfl, ?_⟩))
            go_roundg k1
            case measure => have := HK1.out; omega
            case rel => exact ⟨(wrap64 (x3_1 + t108)), (wrap64 (x7_1 + 1)), (by first | rfl | (simp; done) | (simp [*]; done)), (by first | rfl | (simp; done) | (simp [*]; done)), H', ⟨by have := HK1.out; omega⟩, by repeat (first | exact Drawn0.refl _ | apply Drawn0.step)⟩
          · rw [if_neg c4] at H
            exact absurd H (by simp)
        · rw [if_neg c3] at H
          exact absurd H (by simp)
      · rw [if_neg c2] at H
        have c2b0 : decide (x7_1 < (a0.size : Int)) = false := decide_eq_false c2
        clear c2
        obtain rfl := Option.some.inj H
        go_wp2
        go_ret
        exact ⟨by first | rfl | (simp; done) | (simp [*]; done), by repeat (first | exact Drawn0.refl _ | apply Drawn0.step)⟩

/-! ### styluslaw02_awake: function 11 -/
def styluslaw02_awake.f (k : Nat)  : Option (Bool) := (cell_Parse.f (⟨#[53, 45, 49, 52, 53]⟩ : ByteArray)).bind fun bt109 => ((cell_Parse.f (⟨#[49, 45, 45, 50]⟩ : ByteArray)).bind fun bt112 => ((cell_Parse.f (⟨#[]⟩ : ByteArray)).bind fun bt115 => ((cell_Sign.f 1).bind fun bt118 => ((cell_Sign.f 0).bind fun bt120 => ((cell_Sign.f 63).bind fun bt122 => ((cell_From.f 87).bind fun bt124 => ((cell_From.f 97).bind fun bt126 => ((cell_Signs.f (⟨#[19, 1, 37]⟩ : ByteArray)).bind fun bt128 => ((styluslaw02_of.f (⟨#[49]⟩ : ByteArray) 1 true).bind fun t130 => (if t130 = true then ((styluslaw02_of.f (⟨#[50, 52, 54]⟩ : ByteArray) 42 true).bind fun t131 => (if t131 = true then ((styluslaw02_of.f (⟨#[50, 49]⟩ : ByteArray) 0 false).bind fun t132 => (if t132 = true then ((styluslaw02_of.f (⟨#[55]⟩ : ByteArray) 0 false).bind fun t133 => (if t133 = true then ((styluslaw02_of.f (⟨#[]⟩ : ByteArray) 0 false).bind fun t134 => (if t134 = true then ((cell_Dots.f k 63).bind fun t135 => (if t135.toList = ([49, 50, 51, 52, 53, 54] : List UInt8) then ((cell_Dots.f k 0).bind fun t136 => (if t136.toList = ([] : List UInt8) then (if bt109.1.toList = ([16, 25] : List UInt8) then (if bt109.2.2 = 0 then (if bt112.2.1 = 2 then (if bt112.2.2 = 2 then (if bt115.2.1 = 0 then (if bt115.2.2 = 2 then (if bt118.1 = 65 then (if bt118.2 = true then (if bt120.1 = 32 then (if bt120.2 = true then (if bt122.1 = 61 then (if bt122.2 = true then (if bt124.1 = 58 then (if bt124.2 = true then (if bt126.2 = true then (some false) else (if bt128.1.toList = ([72, 65, 85] : List UInt8) then (if bt128.2 = 0 then ((cell_Count.f k (⟨#[19, 1, 37]⟩ : ByteArray)).bind fun t137 => (some (t137 == 7))) else (some false)) else (some false))) else (some false)) else (some false)) else (some false)) else (some false)) else (some false)) else (some false)) else (some false)) else (some false)) else (some false)) else (some false)) else (some false)) else (some false)) else (some false)) else (some false)) else (some false))) else (some false))) else (some false))) else (some false))) else (some false))) else (some false))) else (some false)))))))))))
theorem styluslaw02_awake.mono : ∀ k, LeO (styluslaw02_awake.f k ) (styluslaw02_awake.f (k + 1) ) := by
  intro  k
  unfold styluslaw02_awake.f
  repeat' first
      | (with_reducible exact cell_Count.mono _ _)
      | (with_reducible exact cell_Dots.mono _ _)
      | (with_reducible exact LeO.refl _)
      | (with_reducible exact LeO.none _)
      | (with_reducible refine LeO.ite ?_ ?_)
      | (with_reducible refine LeO.bind ?_ (fun _ => ?_))
      | exact cell_Count.mono _ _
      | exact cell_Dots.mono _ _
      | exact LeO.none _
      | refine LeO.ite ?_ ?_
      | refine LeO.bind ?_ (fun _ => ?_)
theorem styluslaw02_awake.only (k : Nat) (r : Bool) (h : styluslaw02_awake.f k = some r) : r = true := by
  have h2 : styluslaw02_awake.f 200 = some true := by decide +kernel
  have h3 := at_rounds (g := styluslaw02_awake.f) styluslaw02_awake.mono (Nat.le_max_right k 200) h2
  have h4 := at_rounds (g := styluslaw02_awake.f) styluslaw02_awake.mono (Nat.le_max_left k 200) h
  rw [h3] at h4
  exact (Option.some.inj h4).symm
set_option maxHeartbeats 8000000 in
set_option maxRecDepth 100000 in
theorem styluslaw02_awake.calls (k : Nat)  (r : Bool) (w : World) (h : styluslaw02_awake.f k  = some r) :
    Calls Tryd.prog 11 #[] w fun e w' => e = .returned (.bool r) ∧ Below w.heap.size w w' := by
  have HB := Aside0.mk (Below.refl w.heap.size w)
  have H : ((cell_Parse.f (⟨#[53, 45, 49, 52, 53]⟩ : ByteArray)).bind fun bt109 => ((cell_Parse.f (⟨#[49, 45, 45, 50]⟩ : ByteArray)).bind fun bt112 => ((cell_Parse.f (⟨#[]⟩ : ByteArray)).bind fun bt115 => ((cell_Sign.f 1).bind fun bt118 => ((cell_Sign.f 0).bind fun bt120 => ((cell_Sign.f 63).bind fun bt122 => ((cell_From.f 87).bind fun bt124 => ((cell_From.f 97).bind fun bt126 => ((cell_Signs.f (⟨#[19, 1, 37]⟩ : ByteArray)).bind fun bt128 => ((styluslaw02_of.f (⟨#[49]⟩ : ByteArray) 1 true).bind fun t130 => (if t130 = true then ((styluslaw02_of.f (⟨#[50, 52, 54]⟩ : ByteArray) 42 true).bind fun t131 => (if t131 = true then ((styluslaw02_of.f (⟨#[50, 49]⟩ : ByteArray) 0 false).bind fun t132 => (if t132 = true then ((styluslaw02_of.f (⟨#[55]⟩ : ByteArray) 0 false).bind fun t133 => (if t133 = true then ((styluslaw02_of.f (⟨#[]⟩ : ByteArray) 0 false).bind fun t134 => (if t134 = true then ((cell_Dots.f k 63).bind fun t135 => (if t135.toList = ([49, 50, 51, 52, 53, 54] : List UInt8) then ((cell_Dots.f k 0).bind fun t136 => (if t136.toList = ([] : List UInt8) then (if bt109.1.toList = ([16, 25] : List UInt8) then (if bt109.2.2 = 0 then (if bt112.2.1 = 2 then (if bt112.2.2 = 2 then (if bt115.2.1 = 0 then (if bt115.2.2 = 2 then (if bt118.1 = 65 then (if bt118.2 = true then (if bt120.1 = 32 then (if bt120.2 = true then (if bt122.1 = 61 then (if bt122.2 = true then (if bt124.1 = 58 then (if bt124.2 = true then (if bt126.2 = true then (some false) else (if bt128.1.toList = ([72, 65, 85] : List UInt8) then (if bt128.2 = 0 then ((cell_Count.f k (⟨#[19, 1, 37]⟩ : ByteArray)).bind fun t137 => (some (t137 == 7))) else (some false)) else (some false))) else (some false)) else (some false)) else (some false)) else (some false)) else (some false)) else (some false)) else (some false)) else (some false)) else (some false)) else (some false)) else (some false)) else (some false)) else (some false)) else (some false)) else (some false))) else (some false))) else (some false))) else (some false))) else (some false))) else (some false))) else (some false)))))))))))) = some r := h
  have hr0 := Aside0.mk (styluslaw02_awake.only k r h)
  clear h
  replace H := Option.bind_eq_some_iff.mp H
  obtain ⟨⟨t109, t110, t111⟩, A10, H⟩ := H
  replace H : ((cell_Parse.f (⟨#[49, 45, 45, 50]⟩ : ByteArray)).bind fun bt112 => ((cell_Parse.f (⟨#[]⟩ : ByteArray)).bind fun bt115 => ((cell_Sign.f 1).bind fun bt118 => ((cell_Sign.f 0).bind fun bt120 => ((cell_Sign.f 63).bind fun bt122 => ((cell_From.f 87).bind fun bt124 => ((cell_From.f 97).bind fun bt126 => ((cell_Signs.f (⟨#[19, 1, 37]⟩ : ByteArray)).bind fun bt128 => ((styluslaw02_of.f (⟨#[49]⟩ : ByteArray) 1 true).bind fun t130 => (if t130 = true then ((styluslaw02_of.f (⟨#[50, 52, 54]⟩ : ByteArray) 42 true).bind fun t131 => (if t131 = true then ((styluslaw02_of.f (⟨#[50, 49]⟩ : ByteArray) 0 false).bind fun t132 => (if t132 = true then ((styluslaw02_of.f (⟨#[55]⟩ : ByteArray) 0 false).bind fun t133 => (if t133 = true then ((styluslaw02_of.f (⟨#[]⟩ : ByteArray) 0 false).bind fun t134 => (if t134 = true then ((cell_Dots.f k 63).bind fun t135 => (if t135.toList = ([49, 50, 51, 52, 53, 54] : List UInt8) then ((cell_Dots.f k 0).bind fun t136 => (if t136.toList = ([] : List UInt8) then (if t109.toList = ([16, 25] : List UInt8) then (if t111 = 0 then (if bt112.2.1 = 2 then (if bt112.2.2 = 2 then (if bt115.2.1 = 0 then (if bt115.2.2 = 2 then (if bt118.1 = 65 then (if bt118.2 = true then (if bt120.1 = 32 then (if bt120.2 = true then (if bt122.1 = 61 then (if bt122.2 = true then (if bt124.1 = 58 then (if bt124.2 = true then (if bt126.2 = true then (some false) else (if bt128.1.toList = ([72, 65, 85] : List UInt8) then (if bt128.2 = 0 then ((cell_Count.f k (⟨#[19, 1, 37]⟩ : ByteArray)).bind fun t137 => (some (t137 == 7))) else (some false)) else (some false))) else (some false)) else (some false)) else (some false)) else (some false)) else (some false)) else (some false)) else (some false)) else (some false)) else (some false)) else (some false)) else (some false)) else (some false)) else (some false)) else (some false)) else (some false))) else (some false))) else (some false))) else (some false))) else (some false))) else (some false))) else (some false))))))))))) = some r := H
  have A1 := Aside0.mk A10
  clear A10
  replace H := Option.bind_eq_some_iff.mp H
  obtain ⟨⟨t112, t113, t114⟩, A20, H⟩ := H
  replace H : ((cell_Parse.f (⟨#[]⟩ : ByteArray)).bind fun bt115 => ((cell_Sign.f 1).bind fun bt118 => ((cell_Sign.f 0).bind fun bt120 => ((cell_Sign.f 63).bind fun bt122 => ((cell_From.f 87).bind fun bt124 => ((cell_From.f 97).bind fun bt126 => ((cell_Signs.f (⟨#[19, 1, 37]⟩ : ByteArray)).bind fun bt128 => ((styluslaw02_of.f (⟨#[49]⟩ : ByteArray) 1 true).bind fun t130 => (if t130 = true then ((styluslaw02_of.f (⟨#[50, 52, 54]⟩ : ByteArray) 42 true).bind fun t131 => (if t131 = true then ((styluslaw02_of.f (⟨#[50, 49]⟩ : ByteArray) 0 false).bind fun t132 => (if t132 = true then ((styluslaw02_of.f (⟨#[55]⟩ : ByteArray) 0 false).bind fun t133 => (if t133 = true then ((styluslaw02_of.f (⟨#[]⟩ : ByteArray) 0 false).bind fun t134 => (if t134 = true then ((cell_Dots.f k 63).bind fun t135 => (if t135.toList = ([49, 50, 51, 52, 53, 54] : List UInt8) then ((cell_Dots.f k 0).bind fun t136 => (if t136.toList = ([] : List UInt8) then (if t109.toList = ([16, 25] : List UInt8) then (if t111 = 0 then (if t113 = 2 then (if t114 = 2 then (if bt115.2.1 = 0 then (if bt115.2.2 = 2 then (if bt118.1 = 65 then (if bt118.2 = true then (if bt120.1 = 32 then (if bt120.2 = true then (if bt122.1 = 61 then (if bt122.2 = true then (if bt124.1 = 58 then (if bt124.2 = true then (if bt126.2 = true then (some false) else (if bt128.1.toList = ([72, 65, 85] : List UInt8) then (if bt128.2 = 0 then ((cell_Count.f k (⟨#[19, 1, 37]⟩ : ByteArray)).bind fun t137 => (some (t137 == 7))) else (some false)) else (some false))) else (some false)) else (some false)) else (some false)) else (some false)) else (some false)) else (some false)) else (some false)) else (some false)) else (some false)) else (some false)) else (some false)) else (some false)) else (some false)) else (some false)) else (some false))) else (some false))) else (some false))) else (some false))) else (some false))) else (some false))) else (some false)))))))))) = some r := H
  have A2 := Aside0.mk A20
  clear A20
  replace H := Option.bind_eq_some_iff.mp H
  obtain ⟨⟨t115, t116, t117⟩, A30, H⟩ := H
  replace H : ((cell_Sign.f 1).bind fun bt118 => ((cell_Sign.f 0).bind fun bt120 => ((cell_Sign.f 63).bind fun bt122 => ((cell_From.f 87).bind fun bt124 => ((cell_From.f 97).bind fun bt126 => ((cell_Signs.f (⟨#[19, 1, 37]⟩ : ByteArray)).bind fun bt128 => ((styluslaw02_of.f (⟨#[49]⟩ : ByteArray) 1 true).bind fun t130 => (if t130 = true then ((styluslaw02_of.f (⟨#[50, 52, 54]⟩ : ByteArray) 42 true).bind fun t131 => (if t131 = true then ((styluslaw02_of.f (⟨#[50, 49]⟩ : ByteArray) 0 false).bind fun t132 => (if t132 = true then ((styluslaw02_of.f (⟨#[55]⟩ : ByteArray) 0 false).bind fun t133 => (if t133 = true then ((styluslaw02_of.f (⟨#[]⟩ : ByteArray) 0 false).bind fun t134 => (if t134 = true then ((cell_Dots.f k 63).bind fun t135 => (if t135.toList = ([49, 50, 51, 52, 53, 54] : List UInt8) then ((cell_Dots.f k 0).bind fun t136 => (if t136.toList = ([] : List UInt8) then (if t109.toList = ([16, 25] : List UInt8) then (if t111 = 0 then (if t113 = 2 then (if t114 = 2 then (if t116 = 0 then (if t117 = 2 then (if bt118.1 = 65 then (if bt118.2 = true then (if bt120.1 = 32 then (if bt120.2 = true then (if bt122.1 = 61 then (if bt122.2 = true then (if bt124.1 = 58 then (if bt124.2 = true then (if bt126.2 = true then (some false) else (if bt128.1.toList = ([72, 65, 85] : List UInt8) then (if bt128.2 = 0 then ((cell_Count.f k (⟨#[19, 1, 37]⟩ : ByteArray)).bind fun t137 => (some (t137 == 7))) else (some false)) else (some false))) else (some false)) else (some false)) else (some false)) else (some false)) else (some false)) else (some false)) else (some false)) else (some false)) else (some false)) else (some false)) else (some false)) else (some false)) else (some false)) else (some false)) else (some false))) else (some false))) else (some false))) else (some false))) else (some false))) else (some false))) else (some false))))))))) = some r := H
  have A3 := Aside0.mk A30
  clear A30
  replace H := Option.bind_eq_some_iff.mp H
  obtain ⟨⟨t118, t119⟩, A40, H⟩ := H
  replace H : ((cell_Sign.f 0).bind fun bt120 => ((cell_Sign.f 63).bind fun bt122 => ((cell_From.f 87).bind fun bt124 => ((cell_From.f 97).bind fun bt126 => ((cell_Signs.f (⟨#[19, 1, 37]⟩ : ByteArray)).bind fun bt128 => ((styluslaw02_of.f (⟨#[49]⟩ : ByteArray) 1 true).bind fun t130 => (if t130 = true then ((styluslaw02_of.f (⟨#[50, 52, 54]⟩ : ByteArray) 42 true).bind fun t131 => (if t131 = true then ((styluslaw02_of.f (⟨#[50, 49]⟩ : ByteArray) 0 false).bind fun t132 => (if t132 = true then ((styluslaw02_of.f (⟨#[55]⟩ : ByteArray) 0 false).bind fun t133 => (if t133 = true then ((styluslaw02_of.f (⟨#[]⟩ : ByteArray) 0 false).bind fun t134 => (if t134 = true then ((cell_Dots.f k 63).bind fun t135 => (if t135.toList = ([49, 50, 51, 52, 53, 54] : List UInt8) then ((cell_Dots.f k 0).bind fun t136 => (if t136.toList = ([] : List UInt8) then (if t109.toList = ([16, 25] : List UInt8) then (if t111 = 0 then (if t113 = 2 then (if t114 = 2 then (if t116 = 0 then (if t117 = 2 then (if t118 = 65 then (if t119 = true then (if bt120.1 = 32 then (if bt120.2 = true then (if bt122.1 = 61 then (if bt122.2 = true then (if bt124.1 = 58 then (if bt124.2 = true then (if bt126.2 = true then (some false) else (if bt128.1.toList = ([72, 65, 85] : List UInt8) then (if bt128.2 = 0 then ((cell_Count.f k (⟨#[19, 1, 37]⟩ : ByteArray)).bind fun t137 => (some (t137 == 7))) else (some false)) else (some false))) else (some false)) else (some false)) else (some false)) else (some false)) else (some false)) else (some false)) else (some false)) else (some false)) else (some false)) else (some false)) else (some false)) else (some false)) else (some false)) else (some false)) else (some false))) else (some false))) else (some false))) else (some false))) else (some false))) else (some false))) else (some false)))))))) = some r := H
  have A4 := Aside0.mk A40
  clear A40
  replace H := Option.bind_eq_some_iff.mp H
  obtain ⟨⟨t120, t121⟩, A50, H⟩ := H
  replace H : ((cell_Sign.f 63).bind fun bt122 => ((cell_From.f 87).bind fun bt124 => ((cell_From.f 97).bind fun bt126 => ((cell_Signs.f (⟨#[19, 1, 37]⟩ : ByteArray)).bind fun bt128 => ((styluslaw02_of.f (⟨#[49]⟩ : ByteArray) 1 true).bind fun t130 => (if t130 = true then ((styluslaw02_of.f (⟨#[50, 52, 54]⟩ : ByteArray) 42 true).bind fun t131 => (if t131 = true then ((styluslaw02_of.f (⟨#[50, 49]⟩ : ByteArray) 0 false).bind fun t132 => (if t132 = true then ((styluslaw02_of.f (⟨#[55]⟩ : ByteArray) 0 false).bind fun t133 => (if t133 = true then ((styluslaw02_of.f (⟨#[]⟩ : ByteArray) 0 false).bind fun t134 => (if t134 = true then ((cell_Dots.f k 63).bind fun t135 => (if t135.toList = ([49, 50, 51, 52, 53, 54] : List UInt8) then ((cell_Dots.f k 0).bind fun t136 => (if t136.toList = ([] : List UInt8) then (if t109.toList = ([16, 25] : List UInt8) then (if t111 = 0 then (if t113 = 2 then (if t114 = 2 then (if t116 = 0 then (if t117 = 2 then (if t118 = 65 then (if t119 = true then (if t120 = 32 then (if t121 = true then (if bt122.1 = 61 then (if bt122.2 = true then (if bt124.1 = 58 then (if bt124.2 = true then (if bt126.2 = true then (some false) else (if bt128.1.toList = ([72, 65, 85] : List UInt8) then (if bt128.2 = 0 then ((cell_Count.f k (⟨#[19, 1, 37]⟩ : ByteArray)).bind fun t137 => (some (t137 == 7))) else (some false)) else (some false))) else (some false)) else (some false)) else (some false)) else (some false)) else (some false)) else (some false)) else (some false)) else (some false)) else (some false)) else (some false)) else (some false)) else (some false)) else (some false)) else (some false)) else (some false))) else (some false))) else (some false))) else (some false))) else (some false))) else (some false))) else (some false))))))) = some r := H
  have A5 := Aside0.mk A50
  clear A50
  replace H := Option.bind_eq_some_iff.mp H
  obtain ⟨⟨t122, t123⟩, A60, H⟩ := H
  replace H : ((cell_From.f 87).bind fun bt124 => ((cell_From.f 97).bind fun bt126 => ((cell_Signs.f (⟨#[19, 1, 37]⟩ : ByteArray)).bind fun bt128 => ((styluslaw02_of.f (⟨#[49]⟩ : ByteArray) 1 true).bind fun t130 => (if t130 = true then ((styluslaw02_of.f (⟨#[50, 52, 54]⟩ : ByteArray) 42 true).bind fun t131 => (if t131 = true then ((styluslaw02_of.f (⟨#[50, 49]⟩ : ByteArray) 0 false).bind fun t132 => (if t132 = true then ((styluslaw02_of.f (⟨#[55]⟩ : ByteArray) 0 false).bind fun t133 => (if t133 = true then ((styluslaw02_of.f (⟨#[]⟩ : ByteArray) 0 false).bind fun t134 => (if t134 = true then ((cell_Dots.f k 63).bind fun t135 => (if t135.toList = ([49, 50, 51, 52, 53, 54] : List UInt8) then ((cell_Dots.f k 0).bind fun t136 => (if t136.toList = ([] : List UInt8) then (if t109.toList = ([16, 25] : List UInt8) then (if t111 = 0 then (if t113 = 2 then (if t114 = 2 then (if t116 = 0 then (if t117 = 2 then (if t118 = 65 then (if t119 = true then (if t120 = 32 then (if t121 = true then (if t122 = 61 then (if t123 = true then (if bt124.1 = 58 then (if bt124.2 = true then (if bt126.2 = true then (some false) else (if bt128.1.toList = ([72, 65, 85] : List UInt8) then (if bt128.2 = 0 then ((cell_Count.f k (⟨#[19, 1, 37]⟩ : ByteArray)).bind fun t137 => (some (t137 == 7))) else (some false)) else (some false))) else (some false)) else (some false)) else (some false)) else (some false)) else (some false)) else (some false)) else (some false)) else (some false)) else (some false)) else (some false)) else (some false)) else (some false)) else (some false)) else (some false)) else (some false))) else (some false))) else (some false))) else (some false))) else (some false))) else (some false))) else (some false)))))) = some r := H
  have A6 := Aside0.mk A60
  clear A60
  replace H := Option.bind_eq_some_iff.mp H
  obtain ⟨⟨t124, t125⟩, A70, H⟩ := H
  replace H : ((cell_From.f 97).bind fun bt126 => ((cell_Signs.f (⟨#[19, 1, 37]⟩ : ByteArray)).bind fun bt128 => ((styluslaw02_of.f (⟨#[49]⟩ : ByteArray) 1 true).bind fun t130 => (if t130 = true then ((styluslaw02_of.f (⟨#[50, 52, 54]⟩ : ByteArray) 42 true).bind fun t131 => (if t131 = true then ((styluslaw02_of.f (⟨#[50, 49]⟩ : ByteArray) 0 false).bind fun t132 => (if t132 = true then ((styluslaw02_of.f (⟨#[55]⟩ : ByteArray) 0 false).bind fun t133 => (if t133 = true then ((styluslaw02_of.f (⟨#[]⟩ : ByteArray) 0 false).bind fun t134 => (if t134 = true then ((cell_Dots.f k 63).bind fun t135 => (if t135.toList = ([49, 50, 51, 52, 53, 54] : List UInt8) then ((cell_Dots.f k 0).bind fun t136 => (if t136.toList = ([] : List UInt8) then (if t109.toList = ([16, 25] : List UInt8) then (if t111 = 0 then (if t113 = 2 then (if t114 = 2 then (if t116 = 0 then (if t117 = 2 then (if t118 = 65 then (if t119 = true then (if t120 = 32 then (if t121 = true then (if t122 = 61 then (if t123 = true then (if t124 = 58 then (if t125 = true then (if bt126.2 = true then (some false) else (if bt128.1.toList = ([72, 65, 85] : List UInt8) then (if bt128.2 = 0 then ((cell_Count.f k (⟨#[19, 1, 37]⟩ : ByteArray)).bind fun t137 => (some (t137 == 7))) else (some false)) else (some false))) else (some false)) else (some false)) else (some false)) else (some false)) else (some false)) else (some false)) else (some false)) else (some false)) else (some false)) else (some false)) else (some false)) else (some false)) else (some false)) else (some false)) else (some false))) else (some false))) else (some false))) else (some false))) else (some false))) else (some false))) else (some false))))) = some r := H
  have A7 := Aside0.mk A70
  clear A70
  replace H := Option.bind_eq_some_iff.mp H
  obtain ⟨⟨t126, t127⟩, A80, H⟩ := H
  replace H : ((cell_Signs.f (⟨#[19, 1, 37]⟩ : ByteArray)).bind fun bt128 => ((styluslaw02_of.f (⟨#[49]⟩ : ByteArray) 1 true).bind fun t130 => (if t130 = true then ((styluslaw02_of.f (⟨#[50, 52, 54]⟩ : ByteArray) 42 true).bind fun t131 => (if t131 = true then ((styluslaw02_of.f (⟨#[50, 49]⟩ : ByteArray) 0 false).bind fun t132 => (if t132 = true then ((styluslaw02_of.f (⟨#[55]⟩ : ByteArray) 0 false).bind fun t133 => (if t133 = true then ((styluslaw02_of.f (⟨#[]⟩ : ByteArray) 0 false).bind fun t134 => (if t134 = true then ((cell_Dots.f k 63).bind fun t135 => (if t135.toList = ([49, 50, 51, 52, 53, 54] : List UInt8) then ((cell_Dots.f k 0).bind fun t136 => (if t136.toList = ([] : List UInt8) then (if t109.toList = ([16, 25] : List UInt8) then (if t111 = 0 then (if t113 = 2 then (if t114 = 2 then (if t116 = 0 then (if t117 = 2 then (if t118 = 65 then (if t119 = true then (if t120 = 32 then (if t121 = true then (if t122 = 61 then (if t123 = true then (if t124 = 58 then (if t125 = true then (if t127 = true then (some false) else (if bt128.1.toList = ([72, 65, 85] : List UInt8) then (if bt128.2 = 0 then ((cell_Count.f k (⟨#[19, 1, 37]⟩ : ByteArray)).bind fun t137 => (some (t137 == 7))) else (some false)) else (some false))) else (some false)) else (some false)) else (some false)) else (some false)) else (some false)) else (some false)) else (some false)) else (some false)) else (some false)) else (some false)) else (some false)) else (some false)) else (some false)) else (some false)) else (some false))) else (some false))) else (some false))) else (some false))) else (some false))) else (some false))) else (some false)))) = some r := H
  have A8 := Aside0.mk A80
  clear A80
  replace H := Option.bind_eq_some_iff.mp H
  obtain ⟨⟨t128, t129⟩, A90, H⟩ := H
  replace H : ((styluslaw02_of.f (⟨#[49]⟩ : ByteArray) 1 true).bind fun t130 => (if t130 = true then ((styluslaw02_of.f (⟨#[50, 52, 54]⟩ : ByteArray) 42 true).bind fun t131 => (if t131 = true then ((styluslaw02_of.f (⟨#[50, 49]⟩ : ByteArray) 0 false).bind fun t132 => (if t132 = true then ((styluslaw02_of.f (⟨#[55]⟩ : ByteArray) 0 false).bind fun t133 => (if t133 = true then ((styluslaw02_of.f (⟨#[]⟩ : ByteArray) 0 false).bind fun t134 => (if t134 = true then ((cell_Dots.f k 63).bind fun t135 => (if t135.toList = ([49, 50, 51, 52, 53, 54] : List UInt8) then ((cell_Dots.f k 0).bind fun t136 => (if t136.toList = ([] : List UInt8) then (if t109.toList = ([16, 25] : List UInt8) then (if t111 = 0 then (if t113 = 2 then (if t114 = 2 then (if t116 = 0 then (if t117 = 2 then (if t118 = 65 then (if t119 = true then (if t120 = 32 then (if t121 = true then (if t122 = 61 then (if t123 = true then (if t124 = 58 then (if t125 = true then (if t127 = true then (some false) else (if t128.toList = ([72, 65, 85] : List UInt8) then (if t129 = 0 then ((cell_Count.f k (⟨#[19, 1, 37]⟩ : ByteArray)).bind fun t137 => (some (t137 == 7))) else (some false)) else (some false))) else (some false)) else (some false)) else (some false)) else (some false)) else (some false)) else (some false)) else (some false)) else (some false)) else (some false)) else (some false)) else (some false)) else (some false)) else (some false)) else (some false)) else (some false))) else (some false))) else (some false))) else (some false))) else (some false))) else (some false))) else (some false))) = some r := H
  have A9 := Aside0.mk A90
  clear A90
  replace H := Option.bind_eq_some_iff.mp H
  obtain ⟨t130, A100, H⟩ := H
  replace H : (if t130 = true then ((styluslaw02_of.f (⟨#[50, 52, 54]⟩ : ByteArray) 42 true).bind fun t131 => (if t131 = true then ((styluslaw02_of.f (⟨#[50, 49]⟩ : ByteArray) 0 false).bind fun t132 => (if t132 = true then ((styluslaw02_of.f (⟨#[55]⟩ : ByteArray) 0 false).bind fun t133 => (if t133 = true then ((styluslaw02_of.f (⟨#[]⟩ : ByteArray) 0 false).bind fun t134 => (if t134 = true then ((cell_Dots.f k 63).bind fun t135 => (if t135.toList = ([49, 50, 51, 52, 53, 54] : List UInt8) then ((cell_Dots.f k 0).bind fun t136 => (if t136.toList = ([] : List UInt8) then (if t109.toList = ([16, 25] : List UInt8) then (if t111 = 0 then (if t113 = 2 then (if t114 = 2 then (if t116 = 0 then (if t117 = 2 then (if t118 = 65 then (if t119 = true then (if t120 = 32 then (if t121 = true then (if t122 = 61 then (if t123 = true then (if t124 = 58 then (if t125 = true then (if t127 = true then (some false) else (if t128.toList = ([72, 65, 85] : List UInt8) then (if t129 = 0 then ((cell_Count.f k (⟨#[19, 1, 37]⟩ : ByteArray)).bind fun t137 => (some (t137 == 7))) else (some false)) else (some false))) else (some false)) else (some false)) else (some false)) else (some false)) else (some false)) else (some false)) else (some false)) else (some false)) else (some false)) else (some false)) else (some false)) else (some false)) else (some false)) else (some false)) else (some false))) else (some false))) else (some false))) else (some false))) else (some false))) else (some false))) else (some false)) = some r := H
  have A10 := Aside0.mk A100
  clear A100
  by_cases c11 : t130 = true
  · subst c11
    have H1 : ((styluslaw02_of.f (⟨#[50, 52, 54]⟩ : ByteArray) 42 true).bind fun t131 => (if t131 = true then ((styluslaw02_of.f (⟨#[50, 49]⟩ : ByteArray) 0 false).bind fun t132 => (if t132 = true then ((styluslaw02_of.f (⟨#[55]⟩ : ByteArray) 0 false).bind fun t133 => (if t133 = true then ((styluslaw02_of.f (⟨#[]⟩ : ByteArray) 0 false).bind fun t134 => (if t134 = true then ((cell_Dots.f k 63).bind fun t135 => (if t135.toList = ([49, 50, 51, 52, 53, 54] : List UInt8) then ((cell_Dots.f k 0).bind fun t136 => (if t136.toList = ([] : List UInt8) then (if t109.toList = ([16, 25] : List UInt8) then (if t111 = 0 then (if t113 = 2 then (if t114 = 2 then (if t116 = 0 then (if t117 = 2 then (if t118 = 65 then (if t119 = true then (if t120 = 32 then (if t121 = true then (if t122 = 61 then (if t123 = true then (if t124 = 58 then (if t125 = true then (if t127 = true then (some false) else (if t128.toList = ([72, 65, 85] : List UInt8) then (if t129 = 0 then ((cell_Count.f k (⟨#[19, 1, 37]⟩ : ByteArray)).bind fun t137 => (some (t137 == 7))) else (some false)) else (some false))) else (some false)) else (some false)) else (some false)) else (some false)) else (some false)) else (some false)) else (some false)) else (some false)) else (some false)) else (some false)) else (some false)) else (some false)) else (some false)) else (some false)) else (some false))) else (some false))) else (some false))) else (some false))) else (some false))) else (some false))) = some r := by rw [if_pos rfl] at H; exact H
    clear H
    have H := H1
    clear H1
    replace H := Option.bind_eq_some_iff.mp H
    obtain ⟨t131, A120, H⟩ := H
    replace H : (if t131 = true then ((styluslaw02_of.f (⟨#[50, 49]⟩ : ByteArray) 0 false).bind fun t132 => (if t132 = true then ((styluslaw02_of.f (⟨#[55]⟩ : ByteArray) 0 false).bind fun t133 => (if t133 = true then ((styluslaw02_of.f (⟨#[]⟩ : ByteArray) 0 false).bind fun t134 => (if t134 = true then ((cell_Dots.f k 63).bind fun t135 => (if t135.toList = ([49, 50, 51, 52, 53, 54] : List UInt8) then ((cell_Dots.f k 0).bind fun t136 => (if t136.toList = ([] : List UInt8) then (if t109.toList = ([16, 25] : List UInt8) then (if t111 = 0 then (if t113 = 2 then (if t114 = 2 then (if t116 = 0 then (if t117 = 2 then (if t118 = 65 then (if t119 = true then (if t120 = 32 then (if t121 = true then (if t122 = 61 then (if t123 = true then (if t124 = 58 then (if t125 = true then (if t127 = true then (some false) else (if t128.toList = ([72, 65, 85] : List UInt8) then (if t129 = 0 then ((cell_Count.f k (⟨#[19, 1, 37]⟩ : ByteArray)).bind fun t137 => (some (t137 == 7))) else (some false)) else (some false))) else (some false)) else (some false)) else (some false)) else (some false)) else (some false)) else (some false)) else (some false)) else (some false)) else (some false)) else (some false)) else (some false)) else (some false)) else (some false)) else (some false)) else (some false))) else (some false))) else (some false))) else (some false))) else (some false))) else (some false)) = some r := H
    have A12 := Aside0.mk A120
    clear A120
    by_cases c13 : t131 = true
    · subst c13
      have H1 : ((styluslaw02_of.f (⟨#[50, 49]⟩ : ByteArray) 0 false).bind fun t132 => (if t132 = true then ((styluslaw02_of.f (⟨#[55]⟩ : ByteArray) 0 false).bind fun t133 => (if t133 = true then ((styluslaw02_of.f (⟨#[]⟩ : ByteArray) 0 false).bind fun t134 => (if t134 = true then ((cell_Dots.f k 63).bind fun t135 => (if t135.toList = ([49, 50, 51, 52, 53, 54] : List UInt8) then ((cell_Dots.f k 0).bind fun t136 => (if t136.toList = ([] : List UInt8) then (if t109.toList = ([16, 25] : List UInt8) then (if t111 = 0 then (if t113 = 2 then (if t114 = 2 then (if t116 = 0 then (if t117 = 2 then (if t118 = 65 then (if t119 = true then (if t120 = 32 then (if t121 = true then (if t122 = 61 then (if t123 = true then (if t124 = 58 then (if t125 = true then (if t127 = true then (some false) else (if t128.toList = ([72, 65, 85] : List UInt8) then (if t129 = 0 then ((cell_Count.f k (⟨#[19, 1, 37]⟩ : ByteArray)).bind fun t137 => (some (t137 == 7))) else (some false)) else (some false))) else (some false)) else (some false)) else (some false)) else (some false)) else (some false)) else (some false)) else (some false)) else (some false)) else (some false)) else (some false)) else (some false)) else (some false)) else (some false)) else (some false)) else (some false))) else (some false))) else (some false))) else (some false))) else (some false))) = some r := by rw [if_pos rfl] at H; exact H
      clear H
      have H := H1
      clear H1
      replace H := Option.bind_eq_some_iff.mp H
      obtain ⟨t132, A140, H⟩ := H
      replace H : (if t132 = true then ((styluslaw02_of.f (⟨#[55]⟩ : ByteArray) 0 false).bind fun t133 => (if t133 = true then ((styluslaw02_of.f (⟨#[]⟩ : ByteArray) 0 false).bind fun t134 => (if t134 = true then ((cell_Dots.f k 63).bind fun t135 => (if t135.toList = ([49, 50, 51, 52, 53, 54] : List UInt8) then ((cell_Dots.f k 0).bind fun t136 => (if t136.toList = ([] : List UInt8) then (if t109.toList = ([16, 25] : List UInt8) then (if t111 = 0 then (if t113 = 2 then (if t114 = 2 then (if t116 = 0 then (if t117 = 2 then (if t118 = 65 then (if t119 = true then (if t120 = 32 then (if t121 = true then (if t122 = 61 then (if t123 = true then (if t124 = 58 then (if t125 = true then (if t127 = true then (some false) else (if t128.toList = ([72, 65, 85] : List UInt8) then (if t129 = 0 then ((cell_Count.f k (⟨#[19, 1, 37]⟩ : ByteArray)).bind fun t137 => (some (t137 == 7))) else (some false)) else (some false))) else (some false)) else (some false)) else (some false)) else (some false)) else (some false)) else (some false)) else (some false)) else (some false)) else (some false)) else (some false)) else (some false)) else (some false)) else (some false)) else (some false)) else (some false))) else (some false))) else (some false))) else (some false))) else (some false)) = some r := H
      have A14 := Aside0.mk A140
      clear A140
      by_cases c15 : t132 = true
      · subst c15
        have H1 : ((styluslaw02_of.f (⟨#[55]⟩ : ByteArray) 0 false).bind fun t133 => (if t133 = true then ((styluslaw02_of.f (⟨#[]⟩ : ByteArray) 0 false).bind fun t134 => (if t134 = true then ((cell_Dots.f k 63).bind fun t135 => (if t135.toList = ([49, 50, 51, 52, 53, 54] : List UInt8) then ((cell_Dots.f k 0).bind fun t136 => (if t136.toList = ([] : List UInt8) then (if t109.toList = ([16, 25] : List UInt8) then (if t111 = 0 then (if t113 = 2 then (if t114 = 2 then (if t116 = 0 then (if t117 = 2 then (if t118 = 65 then (if t119 = true then (if t120 = 32 then (if t121 = true then (if t122 = 61 then (if t123 = true then (if t124 = 58 then (if t125 = true then (if t127 = true then (some false) else (if t128.toList = ([72, 65, 85] : List UInt8) then (if t129 = 0 then ((cell_Count.f k (⟨#[19, 1, 37]⟩ : ByteArray)).bind fun t137 => (some (t137 == 7))) else (some false)) else (some false))) else (some false)) else (some false)) else (some false)) else (some false)) else (some false)) else (some false)) else (some false)) else (some false)) else (some false)) else (some false)) else (some false)) else (some false)) else (some false)) else (some false)) else (some false))) else (some false))) else (some false))) else (some false))) = some r := by rw [if_pos rfl] at H; exact H
        clear H
        have H := H1
        clear H1
        replace H := Option.bind_eq_some_iff.mp H
        obtain ⟨t133, A160, H⟩ := H
        replace H : (if t133 = true then ((styluslaw02_of.f (⟨#[]⟩ : ByteArray) 0 false).bind fun t134 => (if t134 = true then ((cell_Dots.f k 63).bind fun t135 => (if t135.toList = ([49, 50, 51, 52, 53, 54] : List UInt8) then ((cell_Dots.f k 0).bind fun t136 => (if t136.toList = ([] : List UInt8) then (if t109.toList = ([16, 25] : List UInt8) then (if t111 = 0 then (if t113 = 2 then (if t114 = 2 then (if t116 = 0 then (if t117 = 2 then (if t118 = 65 then (if t119 = true then (if t120 = 32 then (if t121 = true then (if t122 = 61 then (if t123 = true then (if t124 = 58 then (if t125 = true then (if t127 = true then (some false) else (if t128.toList = ([72, 65, 85] : List UInt8) then (if t129 = 0 then ((cell_Count.f k (⟨#[19, 1, 37]⟩ : ByteArray)).bind fun t137 => (some (t137 == 7))) else (some false)) else (some false))) else (some false)) else (some false)) else (some false)) else (some false)) else (some false)) else (some false)) else (some false)) else (some false)) else (some false)) else (some false)) else (some false)) else (some false)) else (some false)) else (some false)) else (some false))) else (some false))) else (some false))) else (some false)) = some r := H
        have A16 := Aside0.mk A160
        clear A160
        by_cases c17 : t133 = true
        · subst c17
          have H1 : ((styluslaw02_of.f (⟨#[]⟩ : ByteArray) 0 false).bind fun t134 => (if t134 = true then ((cell_Dots.f k 63).bind fun t135 => (if t135.toList = ([49, 50, 51, 52, 53, 54] : List UInt8) then ((cell_Dots.f k 0).bind fun t136 => (if t136.toList = ([] : List UInt8) then (if t109.toList = ([16, 25] : List UInt8) then (if t111 = 0 then (if t113 = 2 then (if t114 = 2 then (if t116 = 0 then (if t117 = 2 then (if t118 = 65 then (if t119 = true then (if t120 = 32 then (if t121 = true then (if t122 = 61 then (if t123 = true then (if t124 = 58 then (if t125 = true then (if t127 = true then (some false) else (if t128.toList = ([72, 65, 85] : List UInt8) then (if t129 = 0 then ((cell_Count.f k (⟨#[19, 1, 37]⟩ : ByteArray)).bind fun t137 => (some (t137 == 7))) else (some false)) else (some false))) else (some false)) else (some false)) else (some false)) else (some false)) else (some false)) else (some false)) else (some false)) else (some false)) else (some false)) else (some false)) else (some false)) else (some false)) else (some false)) else (some false)) else (some false))) else (some false))) else (some false))) = some r := by rw [if_pos rfl] at H; exact H
          clear H
          have H := H1
          clear H1
          replace H := Option.bind_eq_some_iff.mp H
          obtain ⟨t134, A180, H⟩ := H
          replace H : (if t134 = true then ((cell_Dots.f k 63).bind fun t135 => (if t135.toList = ([49, 50, 51, 52, 53, 54] : List UInt8) then ((cell_Dots.f k 0).bind fun t136 => (if t136.toList = ([] : List UInt8) then (if t109.toList = ([16, 25] : List UInt8) then (if t111 = 0 then (if t113 = 2 then (if t114 = 2 then (if t116 = 0 then (if t117 = 2 then (if t118 = 65 then (if t119 = true then (if t120 = 32 then (if t121 = true then (if t122 = 61 then (if t123 = true then (if t124 = 58 then (if t125 = true then (if t127 = true then (some false) else (if t128.toList = ([72, 65, 85] : List UInt8) then (if t129 = 0 then ((cell_Count.f k (⟨#[19, 1, 37]⟩ : ByteArray)).bind fun t137 => (some (t137 == 7))) else (some false)) else (some false))) else (some false)) else (some false)) else (some false)) else (some false)) else (some false)) else (some false)) else (some false)) else (some false)) else (some false)) else (some false)) else (some false)) else (some false)) else (some false)) else (some false)) else (some false))) else (some false))) else (some false)) = some r := H
          have A18 := Aside0.mk A180
          clear A180
          by_cases c19 : t134 = true
          · subst c19
            have H1 : ((cell_Dots.f k 63).bind fun t135 => (if t135.toList = ([49, 50, 51, 52, 53, 54] : List UInt8) then ((cell_Dots.f k 0).bind fun t136 => (if t136.toList = ([] : List UInt8) then (if t109.toList = ([16, 25] : List UInt8) then (if t111 = 0 then (if t113 = 2 then (if t114 = 2 then (if t116 = 0 then (if t117 = 2 then (if t118 = 65 then (if t119 = true then (if t120 = 32 then (if t121 = true then (if t122 = 61 then (if t123 = true then (if t124 = 58 then (if t125 = true then (if t127 = true then (some false) else (if t128.toList = ([72, 65, 85] : List UInt8) then (if t129 = 0 then ((cell_Count.f k (⟨#[19, 1, 37]⟩ : ByteArray)).bind fun t137 => (some (t137 == 7))) else (some false)) else (some false))) else (some false)) else (some false)) else (some false)) else (some false)) else (some false)) else (some false)) else (some false)) else (some false)) else (some false)) else (some false)) else (some false)) else (some false)) else (some false)) else (some false)) else (some false))) else (some false))) = some r := by rw [if_pos rfl] at H; exact H
            clear H
            have H := H1
            clear H1
            replace H := Option.bind_eq_some_iff.mp H
            obtain ⟨t135, A200, H⟩ := H
            replace H : (if t135.toList = ([49, 50, 51, 52, 53, 54] : List UInt8) then ((cell_Dots.f k 0).bind fun t136 => (if t136.toList = ([] : List UInt8) then (if t109.toList = ([16, 25] : List UInt8) then (if t111 = 0 then (if t113 = 2 then (if t114 = 2 then (if t116 = 0 then (if t117 = 2 then (if t118 = 65 then (if t119 = true then (if t120 = 32 then (if t121 = true then (if t122 = 61 then (if t123 = true then (if t124 = 58 then (if t125 = true then (if t127 = true then (some false) else (if t128.toList = ([72, 65, 85] : List UInt8) then (if t129 = 0 then ((cell_Count.f k (⟨#[19, 1, 37]⟩ : ByteArray)).bind fun t137 => (some (t137 == 7))) else (some false)) else (some false))) else (some false)) else (some false)) else (some false)) else (some false)) else (some false)) else (some false)) else (some false)) else (some false)) else (some false)) else (some false)) else (some false)) else (some false)) else (some false)) else (some false)) else (some false))) else (some false)) = some r := H
            have A20 := Aside0.mk A200
            clear A200
            by_cases c21 : t135.toList = ([49, 50, 51, 52, 53, 54] : List UInt8)
            · rw [if_pos c21] at H
              have c21b0 : (t135.toList == ([49, 50, 51, 52, 53, 54] : List UInt8)) = true := beq_iff_eq.mpr c21
              have c21b1 : (t135.toList != ([49, 50, 51, 52, 53, 54] : List UInt8)) = false := bne_eq_false_iff_eq.mpr c21
              clear c21
              replace H := Option.bind_eq_some_iff.mp H
              obtain ⟨t136, A220, H⟩ := H
              replace H : (if t136.toList = ([] : List UInt8) then (if t109.toList = ([16, 25] : List UInt8) then (if t111 = 0 then (if t113 = 2 then (if t114 = 2 then (if t116 = 0 then (if t117 = 2 then (if t118 = 65 then (if t119 = true then (if t120 = 32 then (if t121 = true then (if t122 = 61 then (if t123 = true then (if t124 = 58 then (if t125 = true then (if t127 = true then (some false) else (if t128.toList = ([72, 65, 85] : List UInt8) then (if t129 = 0 then ((cell_Count.f k (⟨#[19, 1, 37]⟩ : ByteArray)).bind fun t137 => (some (t137 == 7))) else (some false)) else (some false))) else (some false)) else (some false)) else (some false)) else (some false)) else (some false)) else (some false)) else (some false)) else (some false)) else (some false)) else (some false)) else (some false)) else (some false)) else (some false)) else (some false)) else (some false)) = some r := H
              have A22 := Aside0.mk A220
              clear A220
              by_cases c23 : t136.toList = ([] : List UInt8)
              · rw [if_pos c23] at H
                have c23b0 : (t136.toList == ([] : List UInt8)) = true := beq_iff_eq.mpr c23
                have c23b1 : (t136.toList != ([] : List UInt8)) = false := bne_eq_false_iff_eq.mpr c23
                clear c23
                by_cases c24 : t109.toList = ([16, 25] : List UInt8)
                · rw [if_pos c24] at H
                  have c24b0 : (t109.toList == ([16, 25] : List UInt8)) = true := beq_iff_eq.mpr c24
                  have c24b1 : (t109.toList != ([16, 25] : List UInt8)) = false := bne_eq_false_iff_eq.mpr c24
                  clear c24
                  by_cases c25 : t111 = 0
                  · rw [if_pos c25] at H
                    have c25b0 : (t111 == 0) = true := beq_iff_eq.mpr c25
                    have c25b1 : (t111 != 0) = false := bne_eq_false_iff_eq.mpr c25
                    clear c25
                    by_cases c26 : t113 = 2
                    · rw [if_pos c26] at H
                      have c26b0 : (t113 == 2) = true := beq_iff_eq.mpr c26
                      have c26b1 : (t113 != 2) = false := bne_eq_false_iff_eq.mpr c26
                      clear c26
                      by_cases c27 : t114 = 2
                      · rw [if_pos c27] at H
                        have c27b0 : (t114 == 2) = true := beq_iff_eq.mpr c27
                        have c27b1 : (t114 != 2) = false := bne_eq_false_iff_eq.mpr c27
                        clear c27
                        by_cases c28 : t116 = 0
                        · rw [if_pos c28] at H
                          have c28b0 : (t116 == 0) = true := beq_iff_eq.mpr c28
                          have c28b1 : (t116 != 0) = false := bne_eq_false_iff_eq.mpr c28
                          clear c28
                          by_cases c29 : t117 = 2
                          · rw [if_pos c29] at H
                            have c29b0 : (t117 == 2) = true := beq_iff_eq.mpr c29
                            have c29b1 : (t117 != 2) = false := bne_eq_false_iff_eq.mpr c29
                            clear c29
                            by_cases c30 : t118 = 65
                            · rw [if_pos c30] at H
                              have c30b0 : (t118 == 65) = true := beq_iff_eq.mpr c30
                              have c30b1 : (t118 != 65) = false := bne_eq_false_iff_eq.mpr c30
                              clear c30
                              by_cases c31 : t119 = true
                              · subst c31
                                have H1 : (if t120 = 32 then (if t121 = true then (if t122 = 61 then (if t123 = true then (if t124 = 58 then (if t125 = true then (if t127 = true then (some false) else (if t128.toList = ([72, 65, 85] : List UInt8) then (if t129 = 0 then ((cell_Count.f k (⟨#[19, 1, 37]⟩ : ByteArray)).bind fun t137 => (some (t137 == 7))) else (some false)) else (some false))) else (some false)) else (some false)) else (some false)) else (some false)) else (some false)) else (some false)) = some r := by rw [if_pos rfl] at H; exact H
                                clear H
                                have H := H1
                                clear H1
                                by_cases c32 : t120 = 32
                                · rw [if_pos c32] at H
                                  have c32b0 : (t120 == 32) = true := beq_iff_eq.mpr c32
                                  have c32b1 : (t120 != 32) = false := bne_eq_false_iff_eq.mpr c32
                                  clear c32
                                  by_cases c33 : t121 = true
                                  · subst c33
                                    have H1 : (if t122 = 61 then (if t123 = true then (if t124 = 58 then (if t125 = true then (if t127 = true then (some false) else (if t128.toList = ([72, 65, 85] : List UInt8) then (if t129 = 0 then ((cell_Count.f k (⟨#[19, 1, 37]⟩ : ByteArray)).bind fun t137 => (some (t137 == 7))) else (some false)) else (some false))) else (some false)) else (some false)) else (some false)) else (some false)) = some r := by rw [if_pos rfl] at H; exact H
                                    clear H
                                    have H := H1
                                    clear H1
                                    by_cases c34 : t122 = 61
                                    · rw [if_pos c34] at H
                                      have c34b0 : (t122 == 61) = true := beq_iff_eq.mpr c34
                                      have c34b1 : (t122 != 61) = false := bne_eq_false_iff_eq.mpr c34
                                      clear c34
                                      by_cases c35 : t123 = true
                                      · subst c35
                                        have H1 : (if t124 = 58 then (if t125 = true then (if t127 = true then (some false) else (if t128.toList = ([72, 65, 85] : List UInt8) then (if t129 = 0 then ((cell_Count.f k (⟨#[19, 1, 37]⟩ : ByteArray)).bind fun t137 => (some (t137 == 7))) else (some false)) else (some false))) else (some false)) else (some false)) = some r := by rw [if_pos rfl] at H; exact H
                                        clear H
                                        have H := H1
                                        clear H1
                                        by_cases c36 : t124 = 58
                                        · rw [if_pos c36] at H
                                          have c36b0 : (t124 == 58) = true := beq_iff_eq.mpr c36
                                          have c36b1 : (t124 != 58) = false := bne_eq_false_iff_eq.mpr c36
                                          clear c36
                                          by_cases c37 : t125 = true
                                          · subst c37
                                            have H1 : (if t127 = true then (some false) else (if t128.toList = ([72, 65, 85] : List UInt8) then (if t129 = 0 then ((cell_Count.f k (⟨#[19, 1, 37]⟩ : ByteArray)).bind fun t137 => (some (t137 == 7))) else (some false)) else (some false))) = some r := by rw [if_pos rfl] at H; exact H
                                            clear H
                                            have H := H1
                                            clear H1
                                            by_cases c38 : t127 = true
                                            · subst c38
                                              have H1 : (some false) = some r := by rw [if_pos rfl] at H; exact H
                                              clear H
                                              have H := H1
                                              clear H1
                                              exact absurd ((Option.some.inj H).trans hr0.out) (by decide)
                                            · replace c38 := Bool.eq_false_iff.mpr c38
                                              subst c38
                                              have H1 : (if t128.toList = ([72, 65, 85] : List UInt8) then (if t129 = 0 then ((cell_Count.f k (⟨#[19, 1, 37]⟩ : ByteArray)).bind fun t137 => (some (t137 == 7))) else (some false)) else (some false)) = some r := by rw [if_neg (show ¬ (false = true) by decide)] at H; exact H
                                              clear H
                                              have H := H1
                                              clear H1
                                              by_cases c50 : t128.toList = ([72, 65, 85] : List UInt8)
                                              · rw [if_pos c50] at H
                                                have c50b0 : (t128.toList == ([72, 65, 85] : List UInt8)) = true := beq_iff_eq.mpr c50
                                                have c50b1 : (t128.toList != ([72, 65, 85] : List UInt8)) = false := bne_eq_false_iff_eq.mpr c50
                                                clear c50
                                                by_cases c51 : t129 = 0
                                                · rw [if_pos c51] at H
                                                  have c51b0 : (t129 == 0) = true := beq_iff_eq.mpr c51
                                                  have c51b1 : (t129 != 0) = false := bne_eq_false_iff_eq.mpr c51
                                                  clear c51
                                                  replace H := Option.bind_eq_some_iff.mp H
                                                  obtain ⟨t137, A520, H⟩ := H
                                                  replace H : (some (t137 == 7)) = some r := H
                                                  have A52 := Aside0.mk A520
                                                  clear A520
                                                  obtain rfl := Option.some.inj H
                                                  go_enter Tryd.func11, Tryd.ntmps11
                                                  go_wp2_with (first | (go_at_call 22; (with_reducible refine (cell_Parse.calls (⟨#[53, 45, 49, 52, 53]⟩ : ByteArray) t109 t110 t111 _ A1.out).mono ?_); rintro e w53 ⟨rfl, hb⟩; have n0_ := Aside0.mk (below_step (by repeat (first | (with_reducible first | exact HB.out | apply below_alloc | apply pw_below_drewN | apply below_drew1) | exact HB.out)) hb); clear HB; have HB := n0_; clear n0_; (try clear hb); (try clear hb2); (try clear hk); (try clear hi)) | (go_at_call 22; (with_reducible refine (cell_Parse.calls (⟨#[49, 45, 45, 50]⟩ : ByteArray) t112 t113 t114 _ A2.out).mono ?_); rintro e w54 ⟨rfl, hb⟩; have n0_ := Aside0.mk (below_step (by repeat (first | (with_reducible first | exact HB.out | apply below_alloc | apply pw_below_drewN | apply below_drew1) | exact HB.out)) hb); clear HB; have HB := n0_; clear n0_; (try clear hb); (try clear hb2); (try clear hk); (try clear hi)) | (go_at_call 22; (with_reducible refine (cell_Parse.calls (⟨#[]⟩ : ByteArray) t115 t116 t117 _ A3.out).mono ?_); rintro e w55 ⟨rfl, hb⟩; have n0_ := Aside0.mk (below_step (by repeat (first | (with_reducible first | exact HB.out | apply below_alloc | apply pw_below_drewN | apply below_drew1) | exact HB.out)) hb); clear HB; have HB := n0_; clear n0_; (try clear hb); (try clear hb2); (try clear hk); (try clear hi)) | (go_at_call 12; (with_reducible refine (cell_Sign.calls 1 t118 true _ A4.out).mono ?_); rintro e w' ⟨rfl, ⟨nd, rfl⟩⟩) | (go_at_call 12; (with_reducible refine (cell_Sign.calls 0 t120 true _ A5.out).mono ?_); rintro e w' ⟨rfl, ⟨nd, rfl⟩⟩) | (go_at_call 12; (with_reducible refine (cell_Sign.calls 63 t122 true _ A6.out).mono ?_); rintro e w' ⟨rfl, ⟨nd, rfl⟩⟩) | (go_at_call 14; (with_reducible refine (cell_From.calls 87 t124 true _ A7.out).mono ?_); rintro e w' ⟨rfl, ⟨nd, rfl⟩⟩) | (go_at_call 14; (with_reducible refine (cell_From.calls 97 t126 false _ A8.out).mono ?_); rintro e w' ⟨rfl, ⟨nd, rfl⟩⟩) | (go_at_call 26; (with_reducible refine (cell_Signs.calls (⟨#[19, 1, 37]⟩ : ByteArray) t128 t129 _ A9.out).mono ?_); rintro e w56 ⟨rfl, hb⟩; have n0_ := Aside0.mk (below_step (by repeat (first | (with_reducible first | exact HB.out | apply below_alloc | apply pw_below_drewN | apply below_drew1) | exact HB.out)) hb); clear HB; have HB := n0_; clear n0_; (try clear hb); (try clear hb2); (try clear hk); (try clear hi)) | (go_at_call 19; (with_reducible refine (styluslaw02_of.calls (⟨#[49]⟩ : ByteArray) 1 true true _ A10.out).mono ?_); rintro e w57 ⟨rfl, hb⟩; have n0_ := Aside0.mk (below_step (by repeat (first | (with_reducible first | exact HB.out | apply below_alloc | apply pw_below_drewN | apply below_drew1) | exact HB.out)) hb); clear HB; have HB := n0_; clear n0_; (try clear hb); (try clear hb2); (try clear hk); (try clear hi)) | (go_at_call 19; (with_reducible refine (styluslaw02_of.calls (⟨#[50, 52, 54]⟩ : ByteArray) 42 true true _ A12.out).mono ?_); rintro e w58 ⟨rfl, hb⟩; have n0_ := Aside0.mk (below_step (by repeat (first | (with_reducible first | exact HB.out | apply below_alloc | apply pw_below_drewN | apply below_drew1) | exact HB.out)) hb); clear HB; have HB := n0_; clear n0_; (try clear hb); (try clear hb2); (try clear hk); (try clear hi)) | (go_at_call 19; (with_reducible refine (styluslaw02_of.calls (⟨#[50, 49]⟩ : ByteArray) 0 false true _ A14.out).mono ?_); rintro e w59 ⟨rfl, hb⟩; have n0_ := Aside0.mk (below_step (by repeat (first | (with_reducible first | exact HB.out | apply below_alloc | apply pw_below_drewN | apply below_drew1) | exact HB.out)) hb); clear HB; have HB := n0_; clear n0_; (try clear hb); (try clear hb2); (try clear hk); (try clear hi)) | (go_at_call 19; (with_reducible refine (styluslaw02_of.calls (⟨#[55]⟩ : ByteArray) 0 false true _ A16.out).mono ?_); rintro e w60 ⟨rfl, hb⟩; have n0_ := Aside0.mk (below_step (by repeat (first | (with_reducible first | exact HB.out | apply below_alloc | apply pw_below_drewN | apply below_drew1) | exact HB.out)) hb); clear HB; have HB := n0_; clear n0_; (try clear hb); (try clear hb2); (try clear hk); (try clear hi)) | (go_at_call 19; (with_reducible refine (styluslaw02_of.calls (⟨#[]⟩ : ByteArray) 0 false true _ A18.out).mono ?_); rintro e w61 ⟨rfl, hb⟩; have n0_ := Aside0.mk (below_step (by repeat (first | (with_reducible first | exact HB.out | apply below_alloc | apply pw_below_drewN | apply below_drew1) | exact HB.out)) hb); clear HB; have HB := n0_; clear n0_; (try clear hb); (try clear hb2); (try clear hk); (try clear hi)) | (go_at_call 17; (with_reducible refine (cell_Dots.calls k 63 t135 _ A20.out).mono ?_); rintro e w62 ⟨rfl, hb⟩; have n0_ := Aside0.mk (below_step (by repeat (first | (with_reducible first | exact HB.out | apply below_alloc | apply pw_below_drewN | apply below_drew1) | exact HB.out)) hb); clear HB; have HB := n0_; clear n0_; (try clear hb); (try clear hb2); (try clear hk); (try clear hi)) | (go_at_call 17; (with_reducible refine (cell_Dots.calls k 0 t136 _ A22.out).mono ?_); rintro e w63 ⟨rfl, hb⟩; have n0_ := Aside0.mk (below_step (by repeat (first | (with_reducible first | exact HB.out | apply below_alloc | apply pw_below_drewN | apply below_drew1) | exact HB.out)) hb); clear HB; have HB := n0_; clear n0_; (try clear hb); (try clear hb2); (try clear hk); (try clear hi)) | (go_at_call 21; (with_reducible refine (cell_Count.calls k (⟨#[19, 1, 37]⟩ : ByteArray) t137 _ A52.out).mono ?_); rintro e w' ⟨rfl, ⟨nd, rfl⟩⟩))
                                                  go_ret
                                                  exact ⟨by first | rfl | (simp [errW_none, errW_some] <;> rfl) | (simp [*, errW_none, errW_some] <;> rfl), by repeat (first | (with_reducible first | exact HB.out | apply below_alloc | apply pw_below_drewN | apply below_drew1) | exact HB.out)⟩
                                                · rw [if_neg c51] at H
                                                  have c51b0 : (t129 == 0) = false := beq_eq_false_iff_ne.mpr c51
                                                  have c51b1 : (t129 != 0) = true := bne_iff_ne.mpr c51
                                                  exact absurd ((Option.some.inj H).trans hr0.out) (by decide)
                                              · rw [if_neg c50] at H
                                                have c50b0 : (t128.toList == ([72, 65, 85] : List UInt8)) = false := beq_eq_false_iff_ne.mpr c50
                                                have c50b1 : (t128.toList != ([72, 65, 85] : List UInt8)) = true := bne_iff_ne.mpr c50
                                                exact absurd ((Option.some.inj H).trans hr0.out) (by decide)
                                          · replace c37 := Bool.eq_false_iff.mpr c37
                                            subst c37
                                            have H1 : (some false) = some r := by rw [if_neg (show ¬ (false = true) by decide)] at H; exact H
                                            clear H
                                            have H := H1
                                            clear H1
                                            exact absurd ((Option.some.inj H).trans hr0.out) (by decide)
                                        · rw [if_neg c36] at H
                                          have c36b0 : (t124 == 58) = false := beq_eq_false_iff_ne.mpr c36
                                          have c36b1 : (t124 != 58) = true := bne_iff_ne.mpr c36
                                          exact absurd ((Option.some.inj H).trans hr0.out) (by decide)
                                      · replace c35 := Bool.eq_false_iff.mpr c35
                                        subst c35
                                        have H1 : (some false) = some r := by rw [if_neg (show ¬ (false = true) by decide)] at H; exact H
                                        clear H
                                        have H := H1
                                        clear H1
                                        exact absurd ((Option.some.inj H).trans hr0.out) (by decide)
                                    · rw [if_neg c34] at H
                                      have c34b0 : (t122 == 61) = false := beq_eq_false_iff_ne.mpr c34
                                      have c34b1 : (t122 != 61) = true := bne_iff_ne.mpr c34
                                      exact absurd ((Option.some.inj H).trans hr0.out) (by decide)
                                  · replace c33 := Bool.eq_false_iff.mpr c33
                                    subst c33
                                    have H1 : (some false) = some r := by rw [if_neg (show ¬ (false = true) by decide)] at H; exact H
                                    clear H
                                    have H := H1
                                    clear H1
                                    exact absurd ((Option.some.inj H).trans hr0.out) (by decide)
                                · rw [if_neg c32] at H
                                  have c32b0 : (t120 == 32) = false := beq_eq_false_iff_ne.mpr c32
                                  have c32b1 : (t120 != 32) = true := bne_iff_ne.mpr c32
                                  exact absurd ((Option.some.inj H).trans hr0.out) (by decide)
                              · replace c31 := Bool.eq_false_iff.mpr c31
                                subst c31
                                have H1 : (some false) = some r := by rw [if_neg (show ¬ (false = true) by decide)] at H; exact H
                                clear H
                                have H := H1
                                clear H1
                                exact absurd ((Option.some.inj H).trans hr0.out) (by decide)
                            · rw [if_neg c30] at H
                              have c30b0 : (t118 == 65) = false := beq_eq_false_iff_ne.mpr c30
                              have c30b1 : (t118 != 65) = true := bne_iff_ne.mpr c30
                              exact absurd ((Option.some.inj H).trans hr0.out) (by decide)
                          · rw [if_neg c29] at H
                            have c29b0 : (t117 == 2) = false := beq_eq_false_iff_ne.mpr c29
                            have c29b1 : (t117 != 2) = true := bne_iff_ne.mpr c29
                            exact absurd ((Option.some.inj H).trans hr0.out) (by decide)
                        · rw [if_neg c28] at H
                          have c28b0 : (t116 == 0) = false := beq_eq_false_iff_ne.mpr c28
                          have c28b1 : (t116 != 0) = true := bne_iff_ne.mpr c28
                          exact absurd ((Option.some.inj H).trans hr0.out) (by decide)
                      · rw [if_neg c27] at H
                        have c27b0 : (t114 == 2) = false := beq_eq_false_iff_ne.mpr c27
                        have c27b1 : (t114 != 2) = true := bne_iff_ne.mpr c27
                        exact absurd ((Option.some.inj H).trans hr0.out) (by decide)
                    · rw [if_neg c26] at H
                      have c26b0 : (t113 == 2) = false := beq_eq_false_iff_ne.mpr c26
                      have c26b1 : (t113 != 2) = true := bne_iff_ne.mpr c26
                      exact absurd ((Option.some.inj H).trans hr0.out) (by decide)
                  · rw [if_neg c25] at H
                    have c25b0 : (t111 == 0) = false := beq_eq_false_iff_ne.mpr c25
                    have c25b1 : (t111 != 0) = true := bne_iff_ne.mpr c25
                    exact absurd ((Option.some.inj H).trans hr0.out) (by decide)
                · rw [if_neg c24] at H
                  have c24b0 : (t109.toList == ([16, 25] : List UInt8)) = false := beq_eq_false_iff_ne.mpr c24
                  have c24b1 : (t109.toList != ([16, 25] : List UInt8)) = true := bne_iff_ne.mpr c24
                  exact absurd ((Option.some.inj H).trans hr0.out) (by decide)
              · rw [if_neg c23] at H
                have c23b0 : (t136.toList == ([] : List UInt8)) = false := beq_eq_false_iff_ne.mpr c23
                have c23b1 : (t136.toList != ([] : List UInt8)) = true := bne_iff_ne.mpr c23
                exact absurd ((Option.some.inj H).trans hr0.out) (by decide)
            · rw [if_neg c21] at H
              have c21b0 : (t135.toList == ([49, 50, 51, 52, 53, 54] : List UInt8)) = false := beq_eq_false_iff_ne.mpr c21
              have c21b1 : (t135.toList != ([49, 50, 51, 52, 53, 54] : List UInt8)) = true := bne_iff_ne.mpr c21
              exact absurd ((Option.some.inj H).trans hr0.out) (by decide)
          · replace c19 := Bool.eq_false_iff.mpr c19
            subst c19
            have H1 : (some false) = some r := by rw [if_neg (show ¬ (false = true) by decide)] at H; exact H
            clear H
            have H := H1
            clear H1
            exact absurd ((Option.some.inj H).trans hr0.out) (by decide)
        · replace c17 := Bool.eq_false_iff.mpr c17
          subst c17
          have H1 : (some false) = some r := by rw [if_neg (show ¬ (false = true) by decide)] at H; exact H
          clear H
          have H := H1
          clear H1
          exact absurd ((Option.some.inj H).trans hr0.out) (by decide)
      · replace c15 := Bool.eq_false_iff.mpr c15
        subst c15
        have H1 : (some false) = some r := by rw [if_neg (show ¬ (false = true) by decide)] at H; exact H
        clear H
        have H := H1
        clear H1
        exact absurd ((Option.some.inj H).trans hr0.out) (by decide)
    · replace c13 := Bool.eq_false_iff.mpr c13
      subst c13
      have H1 : (some false) = some r := by rw [if_neg (show ¬ (false = true) by decide)] at H; exact H
      clear H
      have H := H1
      clear H1
      exact absurd ((Option.some.inj H).trans hr0.out) (by decide)
  · replace c11 := Bool.eq_false_iff.mpr c11
    subst c11
    have H1 : (some false) = some r := by rw [if_neg (show ¬ (false = true) by decide)] at H; exact H
    clear H
    have H := H1
    clear H1
    exact absurd ((Option.some.inj H).trans hr0.out) (by decide)

/-! ### stylusref02_Table: function 40 -/
def stylusref02_Table.f  : Option (ByteArray) := some (⟨#[32, 65, 49, 66, 39, 75, 50, 76, 64, 67, 73, 70, 47, 77, 83, 80, 34, 69, 51, 72, 57, 79, 54, 82, 94, 68, 74, 71, 62, 78, 84, 81, 44, 42, 53, 60, 45, 85, 56, 86, 46, 37, 91, 36, 43, 88, 33, 38, 59, 58, 52, 92, 48, 90, 55, 40, 95, 63, 87, 93, 35, 89, 41, 61]⟩ : ByteArray)
set_option maxHeartbeats 8000000 in
set_option maxRecDepth 100000 in
theorem stylusref02_Table.calls  (r : ByteArray) (w : World) (h : stylusref02_Table.f  = some r) :
    Calls Tryd.prog 40 #[] w fun e w' => e = .returned (.string r) ∧ Drawn0 w w' := by
  have H : (some (⟨#[32, 65, 49, 66, 39, 75, 50, 76, 64, 67, 73, 70, 47, 77, 83, 80, 34, 69, 51, 72, 57, 79, 54, 82, 94, 68, 74, 71, 62, 78, 84, 81, 44, 42, 53, 60, 45, 85, 56, 86, 46, 37, 91, 36, 43, 88, 33, 38, 59, 58, 52, 92, 48, 90, 55, 40, 95, 63, 87, 93, 35, 89, 41, 61]⟩ : ByteArray)) = some r := h
  clear h
  obtain rfl := Option.some.inj H
  go_enter Tryd.func40, Tryd.ntmps40
  go_wp2
  go_ret
  exact ⟨by first | rfl | (simp; done) | (simp [*]; done), by repeat (first | exact Drawn0.refl _ | apply Drawn0.step)⟩

/-! ### stylusref02_Sign: function 13 -/
def stylusref02_Sign.f (a0 : Int) : Option (Int × Bool) := if a0 > 63 then (some (0, false)) else ((stylusref02_Table.f).bind fun t138 => (if 0 ≤ a0 then (if a0 < (t138.size : Int) then (some (bt t138 a0, true)) else (none)) else (none)))
set_option maxHeartbeats 8000000 in
set_option maxRecDepth 100000 in
theorem stylusref02_Sign.calls (a0 : Int) (r1 : Int) (r2 : Bool) (w : World) (h : stylusref02_Sign.f a0 = some (r1, r2)) :
    Calls Tryd.prog 13 #[.int .u8 a0] w fun e w' => e = .returned (.tuple #[.int .u8 r1, .bool r2]) ∧ Drawn0 w w' := by
  have H : (if a0 > 63 then (some (0, false)) else ((stylusref02_Table.f).bind fun t138 => (if 0 ≤ a0 then (if a0 < (t138.size : Int) then (some (bt t138 a0, true)) else (none)) else (none)))) = some (r1, r2) := h
  clear h
  by_cases c2 : a0 > 63
  · rw [if_pos c2] at H
    have c2b0 : decide (63 < a0) = true := decide_eq_true c2
    clear c2
    simp only [Option.some.injEq, Prod.mk.injEq] at H
    obtain ⟨rfl, rfl⟩ := H
    go_enter Tryd.func13, Tryd.ntmps13
    go_wp2
    go_ret2
    exact ⟨by first | rfl | (simp; done) | (simp [*]; done), by repeat (first | exact Drawn0.refl _ | apply Drawn0.step)⟩
  · rw [if_neg c2] at H
    have c2b0 : decide (63 < a0) = false := decide_eq_false c2
    clear c2
    replace H := Option.bind_eq_some_iff.mp H
    obtain ⟨t138, A30, H⟩ := H
    replace H : (if 0 ≤ a0 then (if a0 < (t138.size : Int) then (some (bt t138 a0, true)) else (none)) else (none)) = some (r1, r2) := H
    have A3 := Aside0.mk A30
    clear A30
    by_cases c4 : 0 ≤ a0
    · rw [if_pos c4] at H
      have c4b0 : decide (0 ≤ a0) = true := decide_eq_true c4
      clear c4
      by_cases c5 : a0 < (t138.size : Int)
      · rw [if_pos c5] at H
        have c5b0 : decide (a0 < (t138.size : Int)) = true := decide_eq_true c5
        clear c5
        simp only [Option.some.injEq, Prod.mk.injEq] at H
        obtain ⟨rfl, rfl⟩ := H
        go_enter Tryd.func13, Tryd.ntmps13
        go_wp2_with (first | ((with_reducible refine gate_callee (f := 40) rfl ?_); refine goesL_ (some 6) rfl rfl Tryd.func40 (by kernel_rfl) rfl #[] rfl (by (try simp only [List.map_toArray, List.map_cons, List.map_nil]); first | done | rfl | (simp only [List.length_drop, List.length_take]; rfl)) ?_; (with_reducible refine (stylusref02_Table.calls  t138 _ A3.out).mono ?_); rintro e w' ⟨rfl, ⟨nd, rfl⟩⟩; refine ⟨_, rfl, ?_⟩; have p6 : 0 ≤ (a0 : Int) := of_decide_eq_true (by first | (with_reducible assumption) | assumption); have q6 : a0 < (t138.size : Int) := of_decide_eq_true (by first | (with_reducible assumption) | assumption); have hx6 := bt_at t138 a0; replace p6 := eq_true p6; replace q6 := eq_true q6))
        go_ret2
        exact ⟨by first | rfl | (simp; done) | (simp [*]; done), by repeat (first | exact Drawn0.refl _ | apply Drawn0.step)⟩
      · rw [if_neg c5] at H
        exact absurd H (by simp)
    · rw [if_neg c4] at H
      exact absurd H (by simp)

/-! ### stylusref02_From: function 15 -/
def stylusref02_From.l0 : Nat → Int → ByteArray → Int → Option (Int × Bool)
  | 0, _, _, _ => none
  | k + 1, x0, x4, x5 => if x5 < (x4.size : Int) then (if 0 ≤ x5 then (if (bt x4 x5) = x0 then (some ((x5) % 256, true)) else (stylusref02_From.l0 k x0 x4 (wrap64 (x5 + 1)))) else (none)) else (some (0, false))
def stylusref02_From.f (k : Nat) (a0 : Int) : Option (Int × Bool) := (stylusref02_Table.f).bind fun t139 => (stylusref02_From.l0 k a0 t139 0)
theorem stylusref02_From.mono_l : ∀ k, (∀ y0 y1 y2, LeO (stylusref02_From.l0 k y0 y1 y2) (stylusref02_From.l0 (k + 1) y0 y1 y2))
  | 0 => fun _ _ _ r h => by simp [stylusref02_From.l0] at h
  | k + 1 => by
    have ih0 := stylusref02_From.mono_l k
    · intro y0 y1 y2
      unfold stylusref02_From.l0
      repeat' first
      | (with_reducible exact ih0 _ _ _)
      | (with_reducible exact LeO.refl _)
      | (with_reducible exact LeO.none _)
      | (with_reducible refine LeO.ite ?_ ?_)
      | (with_reducible refine LeO.bind ?_ (fun _ => ?_))
      | exact ih0 _ _ _
      | exact LeO.none _
      | refine LeO.ite ?_ ?_
      | refine LeO.bind ?_ (fun _ => ?_)
theorem stylusref02_From.mono : ∀ a0 k, LeO (stylusref02_From.f k a0) (stylusref02_From.f (k + 1) a0) := by
  intro a0 k
  have ih0 := stylusref02_From.mono_l k
  unfold stylusref02_From.f
  repeat' first
      | (with_reducible exact ih0 _ _ _)
      | (with_reducible exact LeO.refl _)
      | (with_reducible exact LeO.none _)
      | (with_reducible refine LeO.ite ?_ ?_)
      | (with_reducible refine LeO.bind ?_ (fun _ => ?_))
      | exact ih0 _ _ _
      | exact LeO.none _
      | refine LeO.ite ?_ ?_
      | refine LeO.bind ?_ (fun _ => ?_)
set_option maxHeartbeats 8000000 in
set_option maxRecDepth 100000 in
theorem stylusref02_From.calls (k : Nat) (a0 : Int) (r1 : Int) (r2 : Bool) (w : World) (h : stylusref02_From.f k a0 = some (r1, r2)) :
    Calls Tryd.prog 15 #[.int .u8 a0] w fun e w' => e = .returned (.tuple #[.int .u8 r1, .bool r2]) ∧ Drawn0 w w' := by
  have H : ((stylusref02_Table.f).bind fun t139 => (stylusref02_From.l0 k a0 t139 0)) = some (r1, r2) := h
  clear h
  replace H := Option.bind_eq_some_iff.mp H
  obtain ⟨t139, A20, H⟩ := H
  replace H : (stylusref02_From.l0 k a0 t139 0) = some (r1, r2) := H
  have A2 := Aside0.mk A20
  clear A20
  have H' := Aside0.mk H
  clear H
  go_enter Tryd.func15, Tryd.ntmps15
  go_wp2_with (first | ((with_reducible refine gate_callee (f := 40) rfl ?_); refine goesL_ (some 6) rfl rfl Tryd.func40 (by kernel_rfl) rfl #[] rfl (by (try simp only [List.map_toArray, List.map_cons, List.map_nil]); first | done | rfl | (simp only [List.length_drop, List.length_take]; rfl)) ?_; (with_reducible refine (stylusref02_Table.calls  t139 _ A2.out).mono ?_); rintro e w' ⟨rfl, ⟨nd, rfl⟩⟩; refine ⟨_, rfl, ?_⟩))
  go_loopg [5] k (fun kq v5 w' => ∃ (x5_1 : Int), v5 = .int .i64 x5_1 ∧ Aside0 (stylusref02_From.l0 kq a0 t139 x5_1 = some (r1, r2)) ∧ Aside0 (kq ≤ k) ∧ Drawn0 w w')
  case atStart => exact ⟨(0), (by first | rfl | (simp; done) | (simp [*]; done)), H', ⟨Nat.le_refl _⟩, by repeat (first | exact Drawn0.refl _ | apply Drawn0.step)⟩
  case round =>
    clear H'
    try clear c1
    try clear p2
    obtain ⟨x5_1, rfl, HA, HK1, ⟨m1, rfl⟩⟩ := hrel
    cases gk with
    | zero => exact absurd HA.out (by simp [stylusref02_From.l0])
    | succ k1 =>
      have H := HA.out
      clear HA
      simp only [stylusref02_From.l0] at H
      by_cases c3 : x5_1 < (t139.size : Int)
      · rw [if_pos c3] at H
        have c3b0 : decide (x5_1 < (t139.size : Int)) = true := decide_eq_true c3
        clear c3
        by_cases c4 : 0 ≤ x5_1
        · rw [if_pos c4] at H
          have c4b0 : decide (0 ≤ x5_1) = true := decide_eq_true c4
          clear c4
          by_cases c6 : (bt t139 x5_1) = a0
          · rw [if_pos c6] at H
            have c6b0 : ((bt t139 x5_1) == a0) = true := beq_iff_eq.mpr c6
            have c6b1 : ((bt t139 x5_1) != a0) = false := bne_eq_false_iff_eq.mpr c6
            clear c6
            simp only [Option.some.injEq, Prod.mk.injEq] at H
            obtain ⟨rfl, rfl⟩ := H
            have p5 : 0 ≤ (x5_1 : Int) := of_decide_eq_true (by first | (with_reducible assumption) | assumption)
            have q5 : x5_1 < (t139.size : Int) := of_decide_eq_true (by first | (with_reducible assumption) | assumption)
            have hx5 := bt_at t139 x5_1
            replace p5 := eq_true p5
            replace q5 := eq_true q5
            go_wp2
            go_ret2
            exact ⟨by first | rfl | (simp; done) | (simp [*]; done), by repeat (first | exact Drawn0.refl _ | apply Drawn0.step)⟩
          · rw [if_neg c6] at H
            have c6b0 : ((bt t139 x5_1) == a0) = false := beq_eq_false_iff_ne.mpr c6
            have c6b1 : ((bt t139 x5_1) != a0) = true := bne_iff_ne.mpr c6
            have H' := Aside0.mk H
            clear H
            have p5 : 0 ≤ (x5_1 : Int) := of_decide_eq_true (by first | (with_reducible assumption) | assumption)
            have q5 : x5_1 < (t139.size : Int) := of_decide_eq_true (by first | (with_reducible assumption) | assumption)
            have hx5 := bt_at t139 x5_1
            replace p5 := eq_true p5
            replace q5 := eq_true q5
            go_wp2
            go_roundg k1
            case measure => have := HK1.out; omega
            case rel => exact ⟨(wrap64 (x5_1 + 1)), (by first | rfl | (simp; done) | (simp [*]; done)), H', ⟨by have := HK1.out; omega⟩, by repeat (first | exact Drawn0.refl _ | apply Drawn0.step)⟩
        · rw [if_neg c4] at H
          exact absurd H (by simp)
      · rw [if_neg c3] at H
        have c3b0 : decide (x5_1 < (t139.size : Int)) = false := decide_eq_false c3
        clear c3
        simp only [Option.some.injEq, Prod.mk.injEq] at H
        obtain ⟨rfl, rfl⟩ := H
        go_wp2
        go_ret2
        exact ⟨by first | rfl | (simp; done) | (simp [*]; done), by repeat (first | exact Drawn0.refl _ | apply Drawn0.step)⟩

end Go.Proofs.YtnepacpbpbbbhaaDoor.PCell
