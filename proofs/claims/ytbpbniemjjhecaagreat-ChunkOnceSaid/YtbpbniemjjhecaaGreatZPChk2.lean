import Derived.Test.YtbpbniemjjhecaaGreatZPChk0
namespace Go.Proofs.YtbpbniemjjhecaaGreat.PChk
open Go.RowKit Go.Proofs.YtbpbniemjjhecaaGreat.G Go.Proofs.YtbpbniemjjhecaaGreatW.PrintWords Go.Proofs.YtbpbniemjjhecaaGreatW.PrintLast Go.Proofs.YtbpbniemjjhecaaGreatW.PrintMore
attribute [local go_sem] max2_int min2_int max_two min_two max_three min_three max_four min_four
set_option linter.unusedVariables false
set_option linter.unusedSimpArgs false
set_option maxHeartbeats 8000000
set_option maxRecDepth 100000
def w12_long.l0 : Nat → List (S50) → Int → Option (Bool)
 | 0, _, _ => none
 | k + 1, x0, x3 => if x3 < (x0.length : Int) then (if 0 ≤ x3 then (if (((rd_T50 x0 x3).f1).size : Int) > 50 then (some true) else (if (((rd_T50 x0 x3).f2).size : Int) > 50 then (some true) else (w12_long.l0 k x0 (wrap64 (x3 + 1))))) else (none)) else (some false)
def w12_long.f (k : Nat) (l0 : List (S50)) : Option (Bool) := if (l0.length : Int) > 450 then (some true) else (w12_long.l0 k l0 0)
def check_of.l0 : Nat → Int → List Int → Int → Int → Option (Int)
 | 0, _, _, _, _ => none
 | k + 1, x3, x6, x7, x8 => if x8 < x7 then (if 0 ≤ x8 then (if x8 < (x6.length : Int) then (if 0 ≤ (rd x6 x8) then (check_of.l0 k (Go.bits .or .u16 x3 (shl .u16 1 (rd x6 x8))) x6 x7 (wrap64 (x8 + 1))) else (none)) else (none)) else (none)) else (some x3)
def check_of.f (k : Nat) (l0 : List Int) : Option (Int) := check_of.l0 k 0 l0 (l0.length : Int) 0
theorem check_of.mono_l : ∀ k, (∀ y0 y1 y2 y3, LeO (check_of.l0 k y0 y1 y2 y3) (check_of.l0 (k + 1) y0 y1 y2 y3))
 | 0 => fun _ _ _ _ r h => by simp [check_of.l0] at h
 | k + 1 => by
  have ih0 := check_of.mono_l k
  ·
   intro y0 y1 y2 y3
   unfold check_of.l0
   repeat' first
   | (with_reducible first | exact ih0 _ _ _ _ | exact LeO.refl _ | exact LeO.none _ | refine LeO.ite ?_ ?_ | refine LeO.bind ?_ (fun _ => ?_))
   | exact ih0 _ _ _ _
   | exact LeO.none _
   | refine LeO.ite ?_ ?_
   | refine LeO.bind ?_ (fun _ => ?_)
theorem check_of.mono : ∀ a0 k, LeO (check_of.f k a0) (check_of.f (k + 1) a0) := by
 intro a0 k
 have ih0 := check_of.mono_l k
 unfold check_of.f
 repeat' first
   | (with_reducible first | exact ih0 _ _ _ _ | exact LeO.refl _ | exact LeO.none _ | refine LeO.ite ?_ ?_ | refine LeO.bind ?_ (fun _ => ?_))
   | exact ih0 _ _ _ _
   | exact LeO.none _
   | refine LeO.ite ?_ ?_
   | refine LeO.bind ?_ (fun _ => ?_)
theorem check_of.calls (k : Nat) (A0 : Option Addr) (c0 : Nat) (l0 : List Int) (r : Int) (w : World) (hr0 : Kd.C (Kd.int .i64) w A0 l0.length l0) (hc0 : l0.length ≤ c0) (h : check_of.f k l0 = some r) :
  Calls Tryz.prog 113 #[.slice A0 l0.length c0] w fun e w' => e = .returned (.int .u16 r) ∧ Drawn0 w w' := by
 have HR0 := aK hr0
 have HC0 := aK hc0
 clear hr0 hc0
 have H : (check_of.l0 k 0 l0 (l0.length : Int) 0) = some r := h
 clear h
 have H' := aK H
 clear H
 go_enter Tryz.func113, Tryz.ntmps113
 go_wp2
 go_loopg [3, 8] k (fun kq v3 v8 w' => ∃ (x3_1 : Int) (x8_1 : Int), v3 = .int .u16 x3_1 ∧ v8 = .int .i64 x8_1 ∧ Aside0 (check_of.l0 kq x3_1 l0 (l0.length : Int) x8_1 = some r) ∧ Aside0 (kq ≤ k) ∧ Drawn0 w w')
 case atStart => exact ⟨(0), (0), sX, sX, H', ⟨Nat.le_refl _⟩, dX⟩
 case round =>
  clear H'
  try clear c1
  obtain ⟨x3_1, x8_1, rfl, rfl, HA, HK1, ⟨m1, rfl⟩⟩ := hrel
  cases gk with
  | zero => exact absurd HA.out (by simp [check_of.l0])
  | succ k1 =>
   have H := HA.out; clear HA
   simp only [check_of.l0] at H
   by_cases c2 : x8_1 < (l0.length : Int)
   rotate_left
   ·
    rw [if_neg c2] at H; have c2b0 : decide (x8_1 < (l0.length : Int)) = false := decide_eq_false c2; clear c2; obtain rfl := oI H
    go_wp2
    go_ret
    exact ⟨sX, dX⟩
   rw [if_pos c2] at H; have c2b0 : decide (x8_1 < (l0.length : Int)) = true := decide_eq_true c2; clear c2
   by_cases c3 : 0 ≤ x8_1
   rotate_left
   ·
    rw [if_neg c3] at H
    exact absurd H (by simp)
   rw [if_pos c3] at H; have c3b0 : decide (0 ≤ x8_1) = true := decide_eq_true c3; clear c3
   by_cases c4 : x8_1 < (l0.length : Int)
   rotate_left
   ·
    rw [if_neg c4] at H
    exact absurd H (by simp)
   rw [if_pos c4] at H; have c4b0 : decide (x8_1 < (l0.length : Int)) = true := decide_eq_true c4; clear c4
   by_cases c5 : 0 ≤ (rd l0 x8_1)
   rotate_left
   ·
    rw [if_neg c5] at H
    exact absurd H (by simp)
   rw [if_pos c5] at H; have c5b0 := eq_true c5; have c5b1 : decide (0 ≤ (rd l0 x8_1)) = true := decide_eq_true c5; clear c5
   obtain ⟨ji6, hji6⟩ : ∃ j_ : Int, (shl .u16 1 (rd l0 x8_1)) = j_ := ⟨_, rfl⟩
   replace H : (check_of.l0 k1 (Go.bits .or .u16 x3_1 (ji6)) l0 (l0.length : Int) (wrap64 (x8_1 + 1))) = some r := by first | (rw [hji6] at H; exact H) | (simp only [hji6] at H ⊢; exact H)
   have hji6_ : (IntKind.u16.wrap (1 * 2 ^ min (rd l0 x8_1).toNat 16)) = ji6 := hji6
   have hji6z : (rd l0 x8_1) ≤ 16 → (IntKind.u16.wrap (1 * 2 ^ (rd l0 x8_1).toNat)) = ji6 := shl_small hji6
   have hji6u : (IntKind.u16.wrap (2 ^ min (rd l0 x8_1).toNat 16)) = ji6 := by have h_ := hji6_; rw [Int.one_mul] at h_; exact h_
   have hji6v : (rd l0 x8_1) ≤ 16 → (IntKind.u16.wrap (2 ^ (rd l0 x8_1).toNat)) = ji6 := fun hle_ => by have h_ := hji6z hle_; rw [Int.one_mul] at h_; exact h_
   have H' := aK H; clear H; have p103 : 0 ≤ (x8_1 : Int) := oA; have q103 : x8_1 < (l0.length : Int) := oA
   obtain ⟨ad103, e103, hx103_0⟩ := Kd.at_int HR0.out x8_1 p103 q103
   cases e103
   replace p103 := eq_true p103; replace q103 := eq_true q103
   go_wp2
   go_roundg k1
   case measure => have := HK1.out; omega
   case rel => exact ⟨(Go.bits .or .u16 x3_1 (ji6)), (wrap64 (x8_1 + 1)), (by first | rfl | (simp; done) | (simp only [← hji6] <;> (first | rfl | simp)) | (simp [*]; done)), sX, H', ⟨by have := HK1.out; omega⟩, dX⟩
def check_row.f (k : Nat) (a0 : Int) : Option (Int) := if a0 = 1 then ((check_of.f k (([1, 2] : List Int))).bind fun t107 => (some (Go.bits .or .u16 320 t107))) else (if a0 = 2 then ((check_of.f k (([1, 3, 4] : List Int))).bind fun t111 => (some (Go.bits .or .u16 320 t111))) else (if a0 = 3 then ((check_of.f k (([7] : List Int))).bind fun t115 => (some (Go.bits .or .u16 320 t115))) else (some 0)))
theorem check_row.mono : ∀ a0 k, LeO (check_row.f k a0) (check_row.f (k + 1) a0) := by
 intro a0 k
 unfold check_row.f
 repeat' first
   | (with_reducible first | exact check_of.mono _ _ | exact LeO.refl _ | exact LeO.none _ | refine LeO.ite ?_ ?_ | refine LeO.bind ?_ (fun _ => ?_))
   | exact check_of.mono _ _
   | exact LeO.none _
   | refine LeO.ite ?_ ?_
   | refine LeO.bind ?_ (fun _ => ?_)
theorem check_row.calls (k : Nat) (a0 : Int) (r : Int) (w : World) (h : check_row.f k a0 = some r) :
  Calls Tryz.prog 80 #[.int .i64 a0] w fun e w' => e = .returned (.int .u16 r) ∧ Below w.heap.size w w' := by
 have HB := aK (Below.refl w.heap.size w)
 have H : (if a0 = 1 then ((check_of.f k (([1, 2] : List Int))).bind fun t107 => (some (Go.bits .or .u16 320 t107))) else (if a0 = 2 then ((check_of.f k (([1, 3, 4] : List Int))).bind fun t111 => (some (Go.bits .or .u16 320 t111))) else (if a0 = 3 then ((check_of.f k (([7] : List Int))).bind fun t115 => (some (Go.bits .or .u16 320 t115))) else (some 0)))) = some r := h
 clear h
 by_cases c2 : a0 = 1
 rotate_left
 ·
  rw [if_neg c2] at H; obtain ⟨c2b0, c2b1⟩ := bN c2
  by_cases c7 : a0 = 2
  rotate_left
  ·
   rw [if_neg c7] at H; obtain ⟨c7b0, c7b1⟩ := bN c7
   by_cases c12 : a0 = 3
   rotate_left
   ·
    rw [if_neg c12] at H; obtain ⟨c12b0, c12b1⟩ := bN c12; obtain rfl := oI H
    go_enter Tryz.func80, Tryz.ntmps80
    go_wp2
    go_ret
    exact ⟨eX, bX⟩
   rw [if_pos c12] at H; obtain ⟨c12b0, c12b1⟩ := bY c12; clear c12
   obtain ⟨y112, hy112⟩ : ∃ y_ : List Int, y_ = (([7] : List Int)) := ⟨_, rfl⟩
   replace H : ((check_of.f k y112).bind fun t115 => (some (Go.bits .or .u16 320 t115))) = some r := by first | (rw [hy112]; with_reducible exact H) | (have H2_ := (Option.bind_some _ _).symm.trans H; rw [hy112]; with_reducible exact H2_) | (have H2_ := (Option.bind_some _ _).symm.trans H; with_reducible exact H2_) | with_reducible exact H | (rw [hy112]; exact H) | exact H
   have Ny112 := aK hy112; clear hy112
   replace H := oB H
   obtain ⟨t115, A130, H⟩ := H
   replace H : (some (Go.bits .or .u16 320 t115)) = some r := H
   have A13 := aK A130; clear A130; obtain rfl := oI H
   go_enter Tryz.func80, Tryz.ntmps80
   go_wp2_with (first | ((with_reducible refine gate_dst (N := 16) rfl ?_); refine Kd.R_lit (Kd.int .i64) _ 3 ?hg (N := 16) ?hd (xs := ([7] : List Int)) (inner := [.int .i64 7]) (ok := fun _ => True) (okp := fun _ => True) ?hr ?hp (fun _ hk => hk) trivial (Below.refl _ _) (Nat.le_refl _) (by simp) ?_; (case hd => rfl); (case hg => rfl); (case hr => first | (go_simp; done) | (go_simp; rfl)); (case hp => exact (Reps.one (show Kd.M (Kd.int .i64) _ _ _ 7 [.int .i64 7] from rfl) (Reps.none _ _))); intro v113 w14 ho15 hb hg_ hnew_; clear hg_ hnew_; (first | rw [← Ny112.out] at ho15 | (simp only [Int.reduceToNat] at ho15; rw [← Ny112.out] at ho15)); have HO114 := aK (Kd.R_lower ho15 (bSz bX)); replace HB := aK (bSp bX hb); clear hb ho15; obtain ⟨Ao16, co16, eo16⟩ := Kd.R_slice HO114.out; subst eo16) | ((with_reducible refine gate_callee (f := 113) rfl ?_); refine gO 17 Tryz.func113 #[.slice Ao16 y112.length co16] ?_; (with_reducible refine (check_of.calls k _ _ y112 t115 _ ?side1 ?side2 A13.out).mono ?_); (case side1 => repeat (first | exact (Kd.R_reads' HO114.out).2.2 | (with_reducible refine Kd.C_alloc ?_ _) | (with_reducible refine Kd.C_drewN ?_ _) | (with_reducible refine Kd.C_drew ?_))); (case side2 => exact (Kd.R_reads' HO114.out).2.1); rintro e w' ⟨rfl, ⟨nd, rfl⟩⟩; refine ⟨_, rfl, ?_⟩))
   go_ret
   exact ⟨eX, bX⟩
  rw [if_pos c7] at H; obtain ⟨c7b0, c7b1⟩ := bY c7; clear c7
  obtain ⟨y108, hy108⟩ : ∃ y_ : List Int, y_ = (([1, 3, 4] : List Int)) := ⟨_, rfl⟩
  replace H : ((check_of.f k y108).bind fun t111 => (some (Go.bits .or .u16 320 t111))) = some r := by first | (rw [hy108]; with_reducible exact H) | (have H2_ := (Option.bind_some _ _).symm.trans H; rw [hy108]; with_reducible exact H2_) | (have H2_ := (Option.bind_some _ _).symm.trans H; with_reducible exact H2_) | with_reducible exact H | (rw [hy108]; exact H) | exact H
  have Ny108 := aK hy108; clear hy108
  replace H := oB H
  obtain ⟨t111, A80, H⟩ := H
  replace H : (some (Go.bits .or .u16 320 t111)) = some r := H
  have A8 := aK A80; clear A80; obtain rfl := oI H
  go_enter Tryz.func80, Tryz.ntmps80
  go_wp2_with (first | ((with_reducible refine gate_dst (N := 11) rfl ?_); refine Kd.R_lit (Kd.int .i64) _ 3 ?hg (N := 11) ?hd (xs := ([1, 3, 4] : List Int)) (inner := [.int .i64 1, .int .i64 3, .int .i64 4]) (ok := fun _ => True) (okp := fun _ => True) ?hr ?hp (fun _ hk => hk) trivial (Below.refl _ _) (Nat.le_refl _) (by simp) ?_; (case hd => rfl); (case hg => rfl); (case hr => first | (go_simp; done) | (go_simp; rfl)); (case hp => exact (Reps.one (show Kd.M (Kd.int .i64) _ _ _ 1 [.int .i64 1] from rfl) (Reps.one (show Kd.M (Kd.int .i64) _ _ _ 3 [.int .i64 3] from rfl) (Reps.one (show Kd.M (Kd.int .i64) _ _ _ 4 [.int .i64 4] from rfl) (Reps.none _ _))))); intro v109 w9 ho10 hb hg_ hnew_; clear hg_ hnew_; (first | rw [← Ny108.out] at ho10 | (simp only [Int.reduceToNat] at ho10; rw [← Ny108.out] at ho10)); have HO110 := aK (Kd.R_lower ho10 (bSz bX)); replace HB := aK (bSp bX hb); clear hb ho10; obtain ⟨Ao11, co11, eo11⟩ := Kd.R_slice HO110.out; subst eo11) | ((with_reducible refine gate_callee (f := 113) rfl ?_); refine gO 12 Tryz.func113 #[.slice Ao11 y108.length co11] ?_; (with_reducible refine (check_of.calls k _ _ y108 t111 _ ?side1 ?side2 A8.out).mono ?_); (case side1 => repeat (first | exact (Kd.R_reads' HO110.out).2.2 | (with_reducible refine Kd.C_alloc ?_ _) | (with_reducible refine Kd.C_drewN ?_ _) | (with_reducible refine Kd.C_drew ?_))); (case side2 => exact (Kd.R_reads' HO110.out).2.1); rintro e w' ⟨rfl, ⟨nd, rfl⟩⟩; refine ⟨_, rfl, ?_⟩))
  go_ret
  exact ⟨eX, bX⟩
 rw [if_pos c2] at H
 obtain ⟨c2b0, c2b1⟩ := bY c2
 clear c2
 obtain ⟨y104, hy104⟩ : ∃ y_ : List Int, y_ = (([1, 2] : List Int)) := ⟨_, rfl⟩
 replace H : ((check_of.f k y104).bind fun t107 => (some (Go.bits .or .u16 320 t107))) = some r := by first | (rw [hy104]; with_reducible exact H) | (have H2_ := (Option.bind_some _ _).symm.trans H; rw [hy104]; with_reducible exact H2_) | (have H2_ := (Option.bind_some _ _).symm.trans H; with_reducible exact H2_) | with_reducible exact H | (rw [hy104]; exact H) | exact H
 have Ny104 := aK hy104
 clear hy104
 replace H := oB H
 obtain ⟨t107, A30, H⟩ := H
 replace H : (some (Go.bits .or .u16 320 t107)) = some r := H
 have A3 := aK A30
 clear A30
 obtain rfl := oI H
 go_enter Tryz.func80, Tryz.ntmps80
 go_wp2_with (first | ((with_reducible refine gate_dst (N := 6) rfl ?_); refine Kd.R_lit (Kd.int .i64) _ 3 ?hg (N := 6) ?hd (xs := ([1, 2] : List Int)) (inner := [.int .i64 1, .int .i64 2]) (ok := fun _ => True) (okp := fun _ => True) ?hr ?hp (fun _ hk => hk) trivial (Below.refl _ _) (Nat.le_refl _) (by simp) ?_; (case hd => rfl); (case hg => rfl); (case hr => first | (go_simp; done) | (go_simp; rfl)); (case hp => exact (Reps.one (show Kd.M (Kd.int .i64) _ _ _ 1 [.int .i64 1] from rfl) (Reps.one (show Kd.M (Kd.int .i64) _ _ _ 2 [.int .i64 2] from rfl) (Reps.none _ _)))); intro v105 w4 ho5 hb hg_ hnew_; clear hg_ hnew_; (first | rw [← Ny104.out] at ho5 | (simp only [Int.reduceToNat] at ho5; rw [← Ny104.out] at ho5)); have HO106 := aK (Kd.R_lower ho5 (bSz bX)); replace HB := aK (bSp bX hb); clear hb ho5; obtain ⟨Ao6, co6, eo6⟩ := Kd.R_slice HO106.out; subst eo6) | ((with_reducible refine gate_callee (f := 113) rfl ?_); refine gO 7 Tryz.func113 #[.slice Ao6 y104.length co6] ?_; (with_reducible refine (check_of.calls k _ _ y104 t107 _ ?side1 ?side2 A3.out).mono ?_); (case side1 => repeat (first | exact (Kd.R_reads' HO106.out).2.2 | (with_reducible refine Kd.C_alloc ?_ _) | (with_reducible refine Kd.C_drewN ?_ _) | (with_reducible refine Kd.C_drew ?_))); (case side2 => exact (Kd.R_reads' HO106.out).2.1); rintro e w' ⟨rfl, ⟨nd, rfl⟩⟩; refine ⟨_, rfl, ?_⟩))
 go_ret
 exact ⟨eX, bX⟩
def check_mask_has.f (a0 : Int) (a1 : Int) : Option (Bool) := if a1 ≥ 0 then (if a1 < 16 then (if 0 ≤ a1 then (some ((Go.bits .and .u16 (shr .u16 a0 a1) 1) == 1)) else (none)) else (some false)) else (some false)
theorem check_mask_has.calls (a0 : Int) (a1 : Int) (r : Bool) (w : World) (h : check_mask_has.f a0 a1 = some r) :
  Calls Tryz.prog 81 #[.int .u16 a0, .int .i64 a1] w fun e w' => e = .returned (.bool r) ∧ Drawn0 w w' := by
 have H : (if a1 ≥ 0 then (if a1 < 16 then (if 0 ≤ a1 then (some ((Go.bits .and .u16 (shr .u16 a0 a1) 1) == 1)) else (none)) else (some false)) else (some false)) = some r := h
 clear h
 by_cases c3 : a1 ≥ 0
 rotate_left
 ·
  rw [if_neg c3] at H; have c3b0 : decide (0 ≤ a1) = false := decide_eq_false c3; clear c3; obtain rfl := oI H
  go_enter Tryz.func81, Tryz.ntmps81
  go_wp2
  go_ret
  exact ⟨sX, dX⟩
 rw [if_pos c3] at H
 have c3b0 : decide (0 ≤ a1) = true := decide_eq_true c3
 clear c3
 by_cases c4 : a1 < 16
 rotate_left
 ·
  rw [if_neg c4] at H; have c4b0 : decide (a1 < 16) = false := decide_eq_false c4; clear c4; obtain rfl := oI H
  go_enter Tryz.func81, Tryz.ntmps81
  go_wp2
  go_ret
  exact ⟨sX, dX⟩
 rw [if_pos c4] at H
 have c4b0 : decide (a1 < 16) = true := decide_eq_true c4
 clear c4
 by_cases c5 : 0 ≤ a1
 rotate_left
 ·
  rw [if_neg c5] at H
  exact absurd H (by simp)
 rw [if_pos c5] at H
 have c5b0 := eq_true c5
 have c5b1 : decide (0 ≤ a1) = true := decide_eq_true c5
 clear c5
 obtain ⟨ji6, hji6⟩ : ∃ j_ : Int, (shr .u16 a0 a1) = j_ := ⟨_, rfl⟩
 replace H : (some ((Go.bits .and .u16 (ji6) 1) == 1)) = some r := by first | (rw [hji6] at H; exact H) | (simp only [hji6] at H ⊢; exact H)
 have hji6_ : (a0 / 2 ^ min a1.toNat 16) = ji6 := hji6
 have hji6z : a1 ≤ 16 → (a0 / 2 ^ a1.toNat) = ji6 := shr_small hji6
 obtain rfl := oI H
 go_enter Tryz.func81, Tryz.ntmps81
 go_wp2
 go_ret
 exact ⟨by first | rfl | (simp; done) | (simp only [← hji6] <;> (first | rfl | simp)) | (simp [*]; done), dX⟩
def check_In.f (k : Nat) (a0_0 : Int) (a0_1 : ByteArray) (a0_2 : ByteArray) (a0_3 : Int) (a0_4 : Int) (a1 : Int) : Option (Bool) := (check_row.f k a1).bind fun t117 => ((check_mask_has.f t117 a0_0).bind fun t118 => (some t118))
theorem check_In.calls (k : Nat) (a0_0 : Int) (a0_1 : ByteArray) (a0_2 : ByteArray) (a0_3 : Int) (a0_4 : Int) (a1 : Int) (r : Bool) (w : World) (h : check_In.f k a0_0 a0_1 a0_2 a0_3 a0_4 a1 = some r) :
  Calls Tryz.prog 37 #[.agg #[.int .i64 a0_0, .string a0_1, .string a0_2, .int .i64 a0_3, .int .i64 a0_4], .int .i64 a1] w fun e w' => e = .returned (.bool r) ∧ Below w.heap.size w w' := by
 have hu50 := Tryz.underlying50
 have HB := aK (Below.refl w.heap.size w)
 have H : ((check_row.f k a1).bind fun t117 => ((check_mask_has.f t117 a0_0).bind fun t118 => (some t118))) = some r := h
 clear h
 obtain ⟨t117, A3, H⟩ := oC H
 try dsimp only at H
 replace H := oB H
 obtain ⟨t118, A40, H⟩ := H
 replace H : (some t118) = some r := H
 have A4 := aK A40
 clear A40
 obtain rfl := oI H
 go_enter Tryz.func37, Tryz.ntmps37
 try go_wp2_with (first | ((with_reducible refine gate_dst (N := 2) rfl ?_); refine box_event ?hg (N := 2) ?hd (cs := #[.int .i64 a0_0, .string a0_1, .string a0_2, .int .i64 a0_3, .int .i64 a0_4]) (t := 50) ?hr ?_; (case hd => rfl); (case hg => rfl); (case hr => first | (go_simp; done) | (go_simp; rfl)); intro gb116 hg w5 hbox hb; have n0_ := aK (bSp bX hb); have n1_ := aK (hbox); have n2_ := aK ((by rw [hg]; exact (bSz bX) : w.heap.size ≤ gb116)); have n3_ := aK ((by rw [hg]; exact (bSz bX) : w.heap.size ≤ gb116)); clear HB; have HB := n0_; have BK116 := n1_; have GW116 := n2_; have GE116 := n3_; clear n0_ n1_ n2_ n3_; clear hb hbox hg))
 have n0_ := aK (kDr BK116.out)
 have n1_ := aK (bD1 HB.out)
 clear BK116
 clear HB
 have BK116 := n0_
 have HB := n1_
 clear n0_ n1_
 refine start_ (n := 6) (S := fun w' => w'.cell? ⟨gb116, 0, none⟩ = some (.int .i64 a0_0) ∧ w'.cell? ⟨gb116, 1, none⟩ = some (.string a0_1) ∧ w'.cell? ⟨gb116, 2, none⟩ = some (.string a0_2) ∧ w'.cell? ⟨gb116, 3, none⟩ = some (.int .i64 a0_3) ∧ w'.cell? ⟨gb116, 4, none⟩ = some (.int .i64 a0_4)) (ds := []) (bl 6 0) (by kernel_rfl) rfl (by kernel_rfl) ⟨(kCe BK116.out 0).trans rfl, (kCe BK116.out 1).trans rfl, (kCe BK116.out 2).trans rfl, (kCe BK116.out 3).trans rfl, (kCe BK116.out 4).trans rfl⟩ (fun hHeld => ?_)
 generalize w5.drew = w6 at BK116 HB hHeld ⊢
 refine pure_ (i := 0) (N := some 5) (v := ?_) (a' := ?_) (bl 6 1) rfl rfl (by kernel_rfl) (fun _ _ _ h => h) (Or.inl ⟨by rfl, ?_⟩) ?_ ?_
 rotate_left
 ·
  intro w'
  go_simp
  with_reducible rfl
 rotate_left
 ·
  simp only [Act.put, qSa, qS0, qS1, i64_w, i32_w]
  rfl
 refine pure_ (i := 2) (N := some 7) (v := ?_) (a' := ?_) (bl 6 5) rfl rfl (by kernel_rfl) (fun _ _ _ h => h) (Or.inl ⟨by rfl, ?_⟩) ?_ ?_
 rotate_left
 ·
  intro w'
  go_simp
  with_reducible rfl
 rotate_left
 ·
  simp only [Act.put, qSa, qS0, qS1, i64_w, i32_w]
  rfl
 refine take_ (i := 3) (N := some 8) (v := ?_) (a' := ?_) (bl 6 13) rfl rfl (by kernel_rfl) (fun _ _ _ h => h) (Or.inl ⟨by rfl, ?_⟩) hHeld ?_ ?_
 rotate_left
 ·
  rintro w' ⟨s0, s1, s2, s3, s4⟩
  go_simp
  with_reducible rfl
 rotate_left
 ·
  simp only [Act.put, qSa, qS0, qS1, i64_w, i32_w]
  rfl
 refine one_ (i := 1) (N := some 6) (bl 6 15) rfl rfl (by kernel_rfl) (by decide) (fun K hK => ?_)
 refine goes_ Tryz.func80 (by kernel_rfl) rfl #[.int .i64 a1] (by rfl) rfl rfl (by (try simp only [qM0, qM1, qM2]); first | done | rfl | (simp only [qD0, qD1]; rfl)) ?_
 with_reducible refine (check_row.calls k a1 t117 _ A3.out).mono ?_
 rintro e w7 ⟨rfl, hb⟩
 refine ⟨_, rfl, ?_⟩
 have n0_ := aK (kBe (g := gb116) (o := .cells #[.int .i64 a0_0, .string a0_1, .string a0_2, .int .i64 a0_3, .int .i64 a0_4] 50 (0, 0)) (kX BK116.out) hb)
 have n1_ := aK (bSp (bX1 GE116.out) hb)
 clear BK116
 clear HB
 have BK116 := n0_
 have HB := n1_
 clear n0_ n1_
 (try clear hb)
 (try clear hb2)
 (try clear hk)
 (try clear hi)
 refine hK.out _ _ ⟨(kCe BK116.out 0).trans rfl, (kCe BK116.out 1).trans rfl, (kCe BK116.out 2).trans rfl, (kCe BK116.out 3).trans rfl, (kCe BK116.out 4).trans rfl⟩ (fun hHeld => ?_)
 clear hK K
 refine norm_ (a' := ?_) ?_ ?_
 rotate_left
 ·
  show Act.put _ (some 6) _ = _
  simp only [Act.put, qSa, qS0, qS1, i64_w, i32_w]
  rfl
 refine one_ (i := 4) (N := some 9) (bl 6 31) rfl rfl (by kernel_rfl) (by decide) (fun K hK => ?_)
 refine goes_ Tryz.func81 (by kernel_rfl) rfl #[.int .u16 t117, .int .i64 a0_0] (by rfl) rfl rfl (by (try simp only [qM0, qM1, qM2]); first | done | rfl | (simp only [qD0, qD1]; rfl)) ?_
 with_reducible refine (check_mask_has.calls t117 a0_0 t118 _ A4.out).mono ?_
 rintro e w' ⟨rfl, ⟨nd, rfl⟩⟩
 refine ⟨_, rfl, ?_⟩
 refine hK.out _ _ ⟨(kCe BK116.out 0).trans rfl, (kCe BK116.out 1).trans rfl, (kCe BK116.out 2).trans rfl, (kCe BK116.out 3).trans rfl, (kCe BK116.out 4).trans rfl⟩ (fun hHeld => ?_)
 clear hK K
 refine norm_ (a' := ?_) ?_ ?_
 rotate_left
 ·
  show Act.put _ (some 9) _ = _
  simp only [Act.put, qSa, qS0, qS1, i64_w, i32_w]
  rfl
 refine pure_ (i := 5) (N := some 4) (v := ?_) (a' := ?_) (bl 6 63) rfl rfl (by kernel_rfl) (fun _ _ _ h => h) (Or.inl ⟨by rfl, ?_⟩) ?_ ?_
 rotate_left
 ·
  intro w'
  go_simp
  with_reducible rfl
 rotate_left
 ·
  simp only [Act.put, qSa, qS0, qS1, i64_w, i32_w]
  rfl
 refine done_ (by kernel_rfl) ?_
 try go_wp2
 go_ret
 exact ⟨eX, bX1 GE116.out⟩
def cell_may.f (a0 : Int) : Option (Bool) := some ((a0 / 64) == 0)
theorem cell_may.calls (a0 : Int) (r : Bool) (w : World) (h : cell_may.f a0 = some r) :
  Calls Tryz.prog 144 #[.int .u8 a0] w fun e w' => e = .returned (.bool r) ∧ Drawn0 w w' := by
 have H : (some ((a0 / 64) == 0)) = some r := h
 clear h
 obtain rfl := oI H
 go_enter Tryz.func144, Tryz.ntmps144
 go_wp2
 go_ret
 exact ⟨sX, dX⟩
def cell_Dots.l0 : Nat → Int → List Int → Int → Option (ByteArray)
 | 0, _, _, _ => none
 | k + 1, x0, x3, x5 => if x5 < 6 then (if 0 ≤ x5 then (if (Go.bits .and .u8 (shr .u8 x0 x5) 1) = 1 then (if x3.length < 140737488355328 then (cell_Dots.l0 k x0 (x3 ++ [(wrap64 (49 + x5)) % 256]) (wrap64 (x5 + 1))) else (none)) else (cell_Dots.l0 k x0 x3 (wrap64 (x5 + 1)))) else (none)) else (some (strOfNums x3))
def cell_Dots.f (k : Nat) (a0 : Int) : Option (ByteArray) := cell_Dots.l0 k a0 ([] : List Int) 0
theorem cell_Dots.mono_l : ∀ k, (∀ y0 y1 y2, LeO (cell_Dots.l0 k y0 y1 y2) (cell_Dots.l0 (k + 1) y0 y1 y2))
 | 0 => fun _ _ _ r h => by simp [cell_Dots.l0] at h
 | k + 1 => by
  have ih0 := cell_Dots.mono_l k
  ·
   intro y0 y1 y2
   unfold cell_Dots.l0
   repeat' first
   | (with_reducible first | exact ih0 _ _ _ | exact LeO.refl _ | exact LeO.none _ | refine LeO.ite ?_ ?_ | refine LeO.bind ?_ (fun _ => ?_))
   | exact ih0 _ _ _
   | exact LeO.none _
   | refine LeO.ite ?_ ?_
   | refine LeO.bind ?_ (fun _ => ?_)
theorem cell_Dots.mono : ∀ a0 k, LeO (cell_Dots.f k a0) (cell_Dots.f (k + 1) a0) := by
 intro a0 k
 have ih0 := cell_Dots.mono_l k
 unfold cell_Dots.f
 repeat' first
   | (with_reducible first | exact ih0 _ _ _ | exact LeO.refl _ | exact LeO.none _ | refine LeO.ite ?_ ?_ | refine LeO.bind ?_ (fun _ => ?_))
   | exact ih0 _ _ _
   | exact LeO.none _
   | refine LeO.ite ?_ ?_
   | refine LeO.bind ?_ (fun _ => ?_)
theorem cell_Dots.calls (k : Nat) (a0 : Int) (r : ByteArray) (w : World) (h : cell_Dots.f k a0 = some r) :
  Calls Tryz.prog 145 #[.int .u8 a0] w fun e w' => e = .returned (.string r) ∧ Below w.heap.size w w' := by
 have HB := aK (Below.refl w.heap.size w)
 have H : (cell_Dots.l0 k a0 ([] : List Int) 0) = some r := h
 clear h
 have H' := aK H
 clear H
 go_enter Tryz.func145, Tryz.ntmps145
 go_wp2
 go_loopg [3, 5] k (fun kq v3 v5 w' => ∃ (x3_1 : List Int) (x5_1 : Int), v5 = .int .i64 x5_1 ∧ Aside0 (cell_Dots.l0 kq a0 x3_1 x5_1 = some r) ∧ Aside0 (kq ≤ k) ∧ Aside0 (Kd.R (Kd.int .u8) 5 w' w.heap.size (fun _ => True) v3 x3_1) ∧ Aside0 (Below w.heap.size w w'))
 case atStart => exact ⟨(([] : List Int)), (0), sX, H', ⟨Nat.le_refl _⟩, ⟨by first | exact Kd.R_nil _ _ _ _ _ | exact Kd.N_nil _ _ _ _ _ | exact Kd.V_nil _ _ _ _ _ | exact Kd.Q_nil _ _ _ _ _ | exact Kd.S_nil _ _ _ _ _⟩, ⟨bX⟩⟩
 case round =>
  clear H'
  try clear c1
  obtain ⟨x3_1, x5_1, rfl, HA, HK1, HO_3, HB⟩ := hrel
  cases gk with
  | zero => exact absurd HA.out (by simp [cell_Dots.l0])
  | succ k1 =>
   have H := HA.out; clear HA
   simp only [cell_Dots.l0] at H
   by_cases c2 : x5_1 < 6
   rotate_left
   ·
    rw [if_neg c2] at H; have c2b0 : decide (x5_1 < 6) = false := decide_eq_false c2; clear c2; obtain rfl := oI H
    have hcv8 := own_string (P := Tryz.prog) Tryz.underlying52 Tryz.underlying5 Tryz.underlying9 (Kd.own_of_R HO_3.out)
    go_wp2
    go_ret
    exact ⟨eX, bX⟩
   rw [if_pos c2] at H; have c2b0 : decide (x5_1 < 6) = true := decide_eq_true c2; clear c2
   by_cases c3 : 0 ≤ x5_1
   rotate_left
   ·
    rw [if_neg c3] at H
    exact absurd H (by simp)
   rw [if_pos c3] at H; have c3b0 := eq_true c3; have c3b1 : decide (0 ≤ x5_1) = true := decide_eq_true c3; clear c3
   obtain ⟨ji4, hji4⟩ : ∃ j_ : Int, (shr .u8 a0 x5_1) = j_ := ⟨_, rfl⟩
   replace H : (if (Go.bits .and .u8 (ji4) 1) = 1 then (if x3_1.length < 140737488355328 then (cell_Dots.l0 k1 a0 (x3_1 ++ [(wrap64 (49 + x5_1)) % 256]) (wrap64 (x5_1 + 1))) else (none)) else (cell_Dots.l0 k1 a0 x3_1 (wrap64 (x5_1 + 1)))) = some r := by first | (rw [hji4] at H; exact H) | (simp only [hji4] at H ⊢; exact H)
   have hji4_ : (a0 / 2 ^ min x5_1.toNat 8) = ji4 := hji4
   have hji4z : x5_1 ≤ 8 → (a0 / 2 ^ x5_1.toNat) = ji4 := shr_small hji4
   by_cases c5 : (Go.bits .and .u8 (ji4) 1) = 1
   rotate_left
   ·
    rw [if_neg c5] at H; obtain ⟨c5b0, c5b1⟩ := bN c5; have H' := aK H; clear H
    go_wp2
    go_roundg k1
    case measure => have := HK1.out; omega
    case rel => exact ⟨(x3_1), (wrap64 (x5_1 + 1)), sX, H', ⟨by have := HK1.out; omega⟩, ⟨rX HO_3.out⟩, ⟨bX⟩⟩
   rw [if_pos c5] at H; obtain ⟨c5b0, c5b1⟩ := bY c5; clear c5
   by_cases c6 : x3_1.length < 140737488355328
   rotate_left
   ·
    rw [if_neg c6] at H
    exact absurd H (by simp)
   rw [if_pos c6] at H; have LMc6 := aK c6; clear c6
   obtain ⟨y119, hy119⟩ : ∃ y_ : List Int, y_ = (x3_1 ++ [(wrap64 (49 + x5_1)) % 256]) := ⟨_, rfl⟩
   replace H : (cell_Dots.l0 k1 a0 y119 (wrap64 (x5_1 + 1))) = some r := by first | (rw [hy119]; with_reducible exact H) | (have H2_ := (Option.bind_some _ _).symm.trans H; rw [hy119]; with_reducible exact H2_) | (have H2_ := (Option.bind_some _ _).symm.trans H; with_reducible exact H2_) | with_reducible exact H | (rw [hy119]; exact H) | exact H
   have Ny119 := aK hy119; clear hy119; have H' := aK H; clear H
   go_wp2_with (first | ((with_reducible refine gate_builtin (b := .append) (xs := #[.tmp 13, .tmp 17]) rfl ?_); at_builtin; refine Kd.R_append (Kd.int .u8) (w0 := w) w.heap.size rfl (.tmp 13) (.tmp 17) 52 5 (.int .u8 0) 1 rfl Tryz.underlying52 info5 rfl (by decide) (by omega) u3 x3_1 ((wrap64 (49 + x5_1)) % 256) [.int .u8 ((wrap64 (49 + x5_1)) % 256)] (fun _ => True) (fun _ => False) rfl rfl ?aP (fun _ hk => hk.elim) ?aF ?aO ?aB ?aS ?aL ?_; (case aP => exact rfl); (case aB => exact bX); (case aF => exact (fun _ _ => trivial)); (case aO => exact (rX HO_3.out)); (case aS => exact (bSz bX)); (case aL => have := LMc6.out; omega); intro v120 w7 ho hb hg hat; rw [← Ny119.out] at ho; replace HB := aK (hb); have HO121 := aK (ho); clear HO_3; clear ho hb hg hat))
   go_roundg k1
   case measure => have := HK1.out; omega
   case rel => exact ⟨(y119), (wrap64 (x5_1 + 1)), sX, H', ⟨by have := HK1.out; omega⟩, ⟨rX HO121.out⟩, ⟨bX⟩⟩
def cell_Print.l0 : Nat → ByteArray → List ByteArray → Int → Int → Option (ByteArray × Int)
 | 0, _, _, _, _ => none
 | k + 1, x0, x4, x7, x8 => if x8 < x7 then (if 0 ≤ x8 then (if x8 < (x0.size : Int) then ((cell_may.f (bt x0 x8)).bind fun t123 => (if t123 = true then (if (bt x0 x8) = 0 then (some ((⟨#[]⟩ : ByteArray), 1)) else ((cell_Dots.f k (bt x0 x8)).bind fun t124 => (if x4.length < 8796093022208 then (cell_Print.l0 k x0 (x4 ++ [t124]) x7 (wrap64 (x8 + 1))) else (none)))) else (some ((⟨#[]⟩ : ByteArray), 1)))) else (none)) else (none)) else (if (x4.length : Int) = 0 then (some ((⟨#[]⟩ : ByteArray), 1)) else (if (x4.length : Int) > 4 then (some ((⟨#[]⟩ : ByteArray), 1)) else ((strings_Join.f x4 (⟨#[45]⟩ : ByteArray)).bind fun t122 => (some (t122, 0)))))
def cell_Print.f (k : Nat) (a0 : ByteArray) : Option (ByteArray × Int) := cell_Print.l0 k a0 ([] : List ByteArray) (a0.size : Int) 0
theorem cell_Print.calls (k : Nat) (a0 : ByteArray) (r1 : ByteArray) (r2 : Int) (w : World) (h : cell_Print.f k a0 = some (r1, r2)) :
  Calls Tryz.prog 130 #[.string a0] w fun e w' => e = .returned (.tuple #[.string r1, .int .i64 r2]) ∧ Below w.heap.size w w' := by
 have HB := aK (Below.refl w.heap.size w)
 have H : (cell_Print.l0 k a0 ([] : List ByteArray) (a0.size : Int) 0) = some (r1, r2) := h
 clear h
 have H' := aK H
 clear H
 go_enter Tryz.func130, Tryz.ntmps130
 go_wp2
 go_loopg [4, 8] k (fun kq v4 v8 w' => ∃ (x4_1 : List ByteArray) (x8_1 : Int), v8 = .int .i64 x8_1 ∧ Aside0 (cell_Print.l0 kq a0 x4_1 (a0.size : Int) x8_1 = some (r1, r2)) ∧ Aside0 (kq ≤ k) ∧ Aside0 (Kd.R Kd.string 9 w' w.heap.size (fun _ => True) v4 x4_1) ∧ Aside0 (Below w.heap.size w w'))
 case atStart => exact ⟨(([] : List ByteArray)), (0), sX, H', ⟨Nat.le_refl _⟩, ⟨by first | exact Kd.R_nil _ _ _ _ _ | exact Kd.N_nil _ _ _ _ _ | exact Kd.V_nil _ _ _ _ _ | exact Kd.Q_nil _ _ _ _ _ | exact Kd.S_nil _ _ _ _ _⟩, ⟨bX⟩⟩
 case round =>
  clear H'
  try clear c1
  obtain ⟨x4_1, x8_1, rfl, HA, HK1, HO_4, HB⟩ := hrel
  cases gk with
  | zero => exact absurd HA.out (by simp [cell_Print.l0])
  | succ k1 =>
   have H := HA.out; clear HA
   simp only [cell_Print.l0] at H
   by_cases c2 : x8_1 < (a0.size : Int)
   rotate_left
   ·
    rw [if_neg c2] at H; have c2b0 : decide (x8_1 < (a0.size : Int)) = false := decide_eq_false c2; clear c2
    by_cases c15 : (x4_1.length : Int) = 0
    rotate_left
    ·
     rw [if_neg c15] at H; obtain ⟨c15b0, c15b1⟩ := bN c15
     have c15b2 : ¬ (x4_1 = []) := fun h_ => c15 (by rw [h_]; rfl)
     by_cases c17 : (x4_1.length : Int) > 4
     rotate_left
     ·
      rw [if_neg c17] at H; have c17b0 : decide (4 < (x4_1.length : Int)) = false := decide_eq_false c17
      have c17b1 : decide (4 < x4_1.length) = false := decide_eq_false (by omega)
      clear c17
      replace H := oB H
      obtain ⟨t122, A190, H⟩ := H
      replace H : (some (t122, 0)) = some (r1, r2) := H
      have A19 := aK A190; clear A190
      simp only [Option.some.injEq, Prod.mk.injEq] at H
      obtain ⟨rfl, rfl⟩ := H
      obtain ⟨Ao20, co20, eo20⟩ := Kd.R_slice HO_4.out
      subst eo20
      go_wp2_with (first | ((with_reducible refine gate_callee (f := 146) rfl ?_); refine gO 39 Tryz.func146 #[.slice Ao20 x4_1.length co20, .string (⟨#[45]⟩ : ByteArray)] ?_; (with_reducible refine (strings_Join.calls _ _ x4_1 (⟨#[45]⟩ : ByteArray) t122 _ ?side1 ?side2 A19.out).mono ?_); (case side1 => repeat (first | exact (Kd.R_reads' HO_4.out).2.2 | (with_reducible refine Kd.C_alloc ?_ _) | (with_reducible refine Kd.C_drewN ?_ _) | (with_reducible refine Kd.C_drew ?_))); (case side2 => exact (Kd.R_reads' HO_4.out).2.1); rintro e w21 ⟨rfl, hb⟩; refine ⟨_, rfl, ?_⟩; replace HO_4 := aK (Kd.R_below (rX HO_4.out) hb); replace HB := aK (bSp bX hb); clear hb))
      go_ret2
      exact ⟨eX, bX⟩
     rw [if_pos c17] at H; have c17b0 : decide (4 < (x4_1.length : Int)) = true := decide_eq_true c17
     have c17b1 : decide (4 < x4_1.length) = true := decide_eq_true (by omega)
     clear c17
     simp only [Option.some.injEq, Prod.mk.injEq] at H
     obtain ⟨rfl, rfl⟩ := H
     obtain ⟨Ao18, co18, eo18⟩ := Kd.R_slice HO_4.out
     subst eo18
     go_wp2
     go_ret2
     exact ⟨eX, bX⟩
    rw [if_pos c15] at H; obtain ⟨c15b0, c15b1⟩ := bY c15; clear c15
    simp only [Option.some.injEq, Prod.mk.injEq] at H
    obtain ⟨rfl, rfl⟩ := H
    obtain ⟨Ao16, co16, eo16⟩ := Kd.R_slice HO_4.out
    subst eo16
    go_wp2
    go_ret2
    exact ⟨eX, bX⟩
   rw [if_pos c2] at H; have c2b0 : decide (x8_1 < (a0.size : Int)) = true := decide_eq_true c2; clear c2
   by_cases c3 : 0 ≤ x8_1
   rotate_left
   ·
    rw [if_neg c3] at H
    exact absurd H (by simp)
   rw [if_pos c3] at H; have c3b0 : decide (0 ≤ x8_1) = true := decide_eq_true c3; clear c3
   by_cases c4 : x8_1 < (a0.size : Int)
   rotate_left
   ·
    rw [if_neg c4] at H
    exact absurd H (by simp)
   rw [if_pos c4] at H; have c4b0 : decide (x8_1 < (a0.size : Int)) = true := decide_eq_true c4; clear c4; obtain ⟨t123, A6, H⟩ := oC H
   try dsimp only at H
   by_cases c7 : t123 = true
   rotate_left
   ·
    replace c7 := Bool.eq_false_iff.mpr c7; subst c7
    have H1 : (some ((⟨#[]⟩ : ByteArray), 1)) = some (r1, r2) := by rw [if_neg (show ¬ (false = true) by decide)] at H; exact H
    clear H
    have H := H1
    clear H1
    simp only [Option.some.injEq, Prod.mk.injEq] at H
    obtain ⟨rfl, rfl⟩ := H
    have p5 : 0 ≤ (x8_1 : Int) := oA; have q5 : x8_1 < (a0.size : Int) := oA
    have hx5 := bt_at a0 x8_1
    replace p5 := eq_true p5; replace q5 := eq_true q5
    go_wp2_with (first | ((with_reducible refine gate_callee (f := 144) rfl ?_); refine gO 14 Tryz.func144 #[.int .u8 (bt a0 x8_1)] ?_; (with_reducible refine (cell_may.calls (bt a0 x8_1) false _ A6.out).mono ?_); rintro e w' ⟨rfl, ⟨nd, rfl⟩⟩; refine ⟨_, rfl, ?_⟩))
    go_ret2
    exact ⟨eX, bX⟩
   subst c7
   have H1 : (if (bt a0 x8_1) = 0 then (some ((⟨#[]⟩ : ByteArray), 1)) else ((cell_Dots.f k1 (bt a0 x8_1)).bind fun t124 => (if x4_1.length < 8796093022208 then (cell_Print.l0 k1 a0 (x4_1 ++ [t124]) (a0.size : Int) (wrap64 (x8_1 + 1))) else (none)))) = some (r1, r2) := by rw [if_pos rfl] at H; exact H
   clear H
   have H := H1
   clear H1
   by_cases c9 : (bt a0 x8_1) = 0
   rotate_left
   ·
    rw [if_neg c9] at H; obtain ⟨c9b0, c9b1⟩ := bN c9; obtain ⟨t124, A11, H⟩ := oC H
    try dsimp only at H
    by_cases c12 : x4_1.length < 8796093022208
    rotate_left
    ·
     rw [if_neg c12] at H
     exact absurd H (by simp)
    rw [if_pos c12] at H; have LMc12 := aK c12; clear c12
    obtain ⟨y125, hy125⟩ : ∃ y_ : List ByteArray, y_ = (x4_1 ++ [t124]) := ⟨_, rfl⟩
    replace H : (cell_Print.l0 k1 a0 y125 (a0.size : Int) (wrap64 (x8_1 + 1))) = some (r1, r2) := by first | (rw [hy125]; with_reducible exact H) | (have H2_ := (Option.bind_some _ _).symm.trans H; rw [hy125]; with_reducible exact H2_) | (have H2_ := (Option.bind_some _ _).symm.trans H; with_reducible exact H2_) | with_reducible exact H | (rw [hy125]; exact H) | exact H
    have Ny125 := aK hy125; clear hy125; have H' := aK H; clear H; have p5 : 0 ≤ (x8_1 : Int) := oA; have q5 : x8_1 < (a0.size : Int) := oA
    have hx5 := bt_at a0 x8_1
    replace p5 := eq_true p5; replace q5 := eq_true q5
    go_wp2_with (first | ((with_reducible refine gate_callee (f := 144) rfl ?_); refine gO 14 Tryz.func144 #[.int .u8 (bt a0 x8_1)] ?_; (with_reducible refine (cell_may.calls (bt a0 x8_1) true _ A6.out).mono ?_); rintro e w' ⟨rfl, ⟨nd, rfl⟩⟩; refine ⟨_, rfl, ?_⟩; have p8 : 0 ≤ (x8_1 : Int) := oA; have q8 : x8_1 < (a0.size : Int) := oA; have hx8 := bt_at a0 x8_1; replace p8 := eq_true p8; replace q8 := eq_true q8; have p10 : 0 ≤ (x8_1 : Int) := oA; have q10 : x8_1 < (a0.size : Int) := oA; have hx10 := bt_at a0 x8_1; replace p10 := eq_true p10; replace q10 := eq_true q10) | ((with_reducible refine gate_callee (f := 145) rfl ?_); refine gO 26 Tryz.func145 #[.int .u8 (bt a0 x8_1)] ?_; (with_reducible refine (cell_Dots.calls k1 (bt a0 x8_1) t124 _ A11.out).mono ?_); rintro e w13 ⟨rfl, hb⟩; refine ⟨_, rfl, ?_⟩; replace HO_4 := aK (Kd.R_below (rX HO_4.out) hb); replace HB := aK (bSp bX hb); clear hb) | ((with_reducible refine gate_builtin (b := .append) (xs := #[.tmp 22, .tmp 27]) rfl ?_); (try (refine gate_guard (by rfl) ?_; dsimp only)); at_builtin; refine Kd.R_append Kd.string (w0 := w) w.heap.size rfl (.tmp 22) (.tmp 27) 112 9 (.string ⟨#[]⟩) 16 rfl Tryz.underlying112 info9 rfl (by decide) (by omega) u4 x4_1 t124 [.string t124] (fun _ => True) (fun _ => False) rfl rfl ?aP (fun _ hk => hk.elim) ?aF ?aO ?aB ?aS ?aL ?_; (case aP => exact rfl); (case aB => exact bX); (case aF => exact (fun _ _ => trivial)); (case aO => exact (rX HO_4.out)); (case aS => exact (bSz bX)); (case aL => have := LMc12.out; omega); intro v126 w14 ho hb hg hat; rw [← Ny125.out] at ho; replace HB := aK (hb); have HO127 := aK (ho); clear HO_4; clear ho hb hg hat))
    go_roundg k1
    case measure => have := HK1.out; omega
    case rel => exact ⟨(y125), (wrap64 (x8_1 + 1)), sX, H', ⟨by have := HK1.out; omega⟩, ⟨rX HO127.out⟩, ⟨bX⟩⟩
   rw [if_pos c9] at H; obtain ⟨c9b0, c9b1⟩ := bY c9; clear c9
   simp only [Option.some.injEq, Prod.mk.injEq] at H
   obtain ⟨rfl, rfl⟩ := H
   have p5 : 0 ≤ (x8_1 : Int) := oA; have q5 : x8_1 < (a0.size : Int) := oA
   have hx5 := bt_at a0 x8_1
   replace p5 := eq_true p5; replace q5 := eq_true q5
   go_wp2_with (first | ((with_reducible refine gate_callee (f := 144) rfl ?_); refine gO 14 Tryz.func144 #[.int .u8 (bt a0 x8_1)] ?_; (with_reducible refine (cell_may.calls (bt a0 x8_1) true _ A6.out).mono ?_); rintro e w' ⟨rfl, ⟨nd, rfl⟩⟩; refine ⟨_, rfl, ?_⟩; have p8 : 0 ≤ (x8_1 : Int) := oA; have q8 : x8_1 < (a0.size : Int) := oA; have hx8 := bt_at a0 x8_1; replace p8 := eq_true p8; replace q8 := eq_true q8))
   go_ret2
   exact ⟨eX, bX⟩
def rules_letters.f (a0 : Int) : Option (Bool) := if a0 ≥ 1 then (some (decide (a0 ≤ 5))) else (some false)
theorem rules_letters.calls (a0 : Int) (r : Bool) (w : World) (h : rules_letters.f a0 = some r) :
  Calls Tryz.prog 132 #[.int .i64 a0] w fun e w' => e = .returned (.bool r) ∧ Drawn0 w w' := by
 have H : (if a0 ≥ 1 then (some (decide (a0 ≤ 5))) else (some false)) = some r := h
 clear h
 by_cases c2 : a0 ≥ 1
 rotate_left
 ·
  rw [if_neg c2] at H; have c2b0 : decide (1 ≤ a0) = false := decide_eq_false c2; clear c2; obtain rfl := oI H
  go_enter Tryz.func132, Tryz.ntmps132
  go_wp2
  go_ret
  exact ⟨sX, dX⟩
 rw [if_pos c2] at H
 have c2b0 : decide (1 ≤ a0) = true := decide_eq_true c2
 clear c2
 obtain rfl := oI H
 go_enter Tryz.func132, Tryz.ntmps132
 go_wp2
 go_ret
 exact ⟨sX, dX⟩
def rules_Names.f  : Option (List ByteArray) := some (([(⟨#[99, 97, 112]⟩ : ByteArray), (⟨#[99, 97, 112, 115]⟩ : ByteArray), (⟨#[110, 117, 109]⟩ : ByteArray), (⟨#[108, 101, 116]⟩ : ByteArray), (⟨#[101, 43]⟩ : ByteArray), (⟨#[101, 45]⟩ : ByteArray), (⟨#[115, 43]⟩ : ByteArray), (⟨#[115, 45]⟩ : ByteArray), (⟨#[110, 43]⟩ : ByteArray), (⟨#[110, 45]⟩ : ByteArray), (⟨#[98, 108, 107]⟩ : ByteArray), (⟨#[99, 111, 110, 116]⟩ : ByteArray), (⟨#[105, 110, 100]⟩ : ByteArray)] : List ByteArray))
theorem rules_Names.calls  (r : List ByteArray) (w : World) (h : rules_Names.f  = some r) :
  Calls Tryz.prog 136 #[] w fun e w' => ∃ v0_ : Value, e = .returned (v0_) ∧ Kd.R Kd.string 9 w' w.heap.size (fun _ => True) v0_ r ∧ Below w.heap.size w w' := by
 have HB := aK (Below.refl w.heap.size w)
 have H : (some (([(⟨#[99, 97, 112]⟩ : ByteArray), (⟨#[99, 97, 112, 115]⟩ : ByteArray), (⟨#[110, 117, 109]⟩ : ByteArray), (⟨#[108, 101, 116]⟩ : ByteArray), (⟨#[101, 43]⟩ : ByteArray), (⟨#[101, 45]⟩ : ByteArray), (⟨#[115, 43]⟩ : ByteArray), (⟨#[115, 45]⟩ : ByteArray), (⟨#[110, 43]⟩ : ByteArray), (⟨#[110, 45]⟩ : ByteArray), (⟨#[98, 108, 107]⟩ : ByteArray), (⟨#[99, 111, 110, 116]⟩ : ByteArray), (⟨#[105, 110, 100]⟩ : ByteArray)] : List ByteArray))) = some r := h
 clear h
 obtain ⟨y128, hy128⟩ : ∃ y_ : List ByteArray, y_ = (([(⟨#[99, 97, 112]⟩ : ByteArray), (⟨#[99, 97, 112, 115]⟩ : ByteArray), (⟨#[110, 117, 109]⟩ : ByteArray), (⟨#[108, 101, 116]⟩ : ByteArray), (⟨#[101, 43]⟩ : ByteArray), (⟨#[101, 45]⟩ : ByteArray), (⟨#[115, 43]⟩ : ByteArray), (⟨#[115, 45]⟩ : ByteArray), (⟨#[110, 43]⟩ : ByteArray), (⟨#[110, 45]⟩ : ByteArray), (⟨#[98, 108, 107]⟩ : ByteArray), (⟨#[99, 111, 110, 116]⟩ : ByteArray), (⟨#[105, 110, 100]⟩ : ByteArray)] : List ByteArray)) := ⟨_, rfl⟩
 replace H : (some y128) = some r := by first | (rw [hy128]; with_reducible exact H) | (have H2_ := (Option.bind_some _ _).symm.trans H; rw [hy128]; with_reducible exact H2_) | (have H2_ := (Option.bind_some _ _).symm.trans H; with_reducible exact H2_) | with_reducible exact H | (rw [hy128]; exact H) | exact H
 have Ny128 := aK hy128
 clear hy128
 obtain rfl := oI H
 go_enter Tryz.func136, Tryz.ntmps136
 go_wp2_with (first | ((with_reducible refine gate_dst (N := 1) rfl ?_); refine Kd.R_lit Kd.string _ 9 ?hg (N := 1) ?hd (xs := ([(⟨#[99, 97, 112]⟩ : ByteArray), (⟨#[99, 97, 112, 115]⟩ : ByteArray), (⟨#[110, 117, 109]⟩ : ByteArray), (⟨#[108, 101, 116]⟩ : ByteArray), (⟨#[101, 43]⟩ : ByteArray), (⟨#[101, 45]⟩ : ByteArray), (⟨#[115, 43]⟩ : ByteArray), (⟨#[115, 45]⟩ : ByteArray), (⟨#[110, 43]⟩ : ByteArray), (⟨#[110, 45]⟩ : ByteArray), (⟨#[98, 108, 107]⟩ : ByteArray), (⟨#[99, 111, 110, 116]⟩ : ByteArray), (⟨#[105, 110, 100]⟩ : ByteArray)] : List ByteArray)) (inner := [.string (⟨#[99, 97, 112]⟩ : ByteArray), .string (⟨#[99, 97, 112, 115]⟩ : ByteArray), .string (⟨#[110, 117, 109]⟩ : ByteArray), .string (⟨#[108, 101, 116]⟩ : ByteArray), .string (⟨#[101, 43]⟩ : ByteArray), .string (⟨#[101, 45]⟩ : ByteArray), .string (⟨#[115, 43]⟩ : ByteArray), .string (⟨#[115, 45]⟩ : ByteArray), .string (⟨#[110, 43]⟩ : ByteArray), .string (⟨#[110, 45]⟩ : ByteArray), .string (⟨#[98, 108, 107]⟩ : ByteArray), .string (⟨#[99, 111, 110, 116]⟩ : ByteArray), .string (⟨#[105, 110, 100]⟩ : ByteArray)]) (ok := fun _ => True) (okp := fun _ => True) ?hr ?hp (fun _ hk => hk) trivial (Below.refl _ _) (Nat.le_refl _) (by simp) ?_; (case hd => rfl); (case hg => rfl); (case hr => first | (go_simp; done) | (go_simp; rfl)); (case hp => exact (Reps.one (show Kd.M Kd.string _ _ _ (⟨#[99, 97, 112]⟩ : ByteArray) [.string (⟨#[99, 97, 112]⟩ : ByteArray)] from rfl) (Reps.one (show Kd.M Kd.string _ _ _ (⟨#[99, 97, 112, 115]⟩ : ByteArray) [.string (⟨#[99, 97, 112, 115]⟩ : ByteArray)] from rfl) (Reps.one (show Kd.M Kd.string _ _ _ (⟨#[110, 117, 109]⟩ : ByteArray) [.string (⟨#[110, 117, 109]⟩ : ByteArray)] from rfl) (Reps.one (show Kd.M Kd.string _ _ _ (⟨#[108, 101, 116]⟩ : ByteArray) [.string (⟨#[108, 101, 116]⟩ : ByteArray)] from rfl) (Reps.one (show Kd.M Kd.string _ _ _ (⟨#[101, 43]⟩ : ByteArray) [.string (⟨#[101, 43]⟩ : ByteArray)] from rfl) (Reps.one (show Kd.M Kd.string _ _ _ (⟨#[101, 45]⟩ : ByteArray) [.string (⟨#[101, 45]⟩ : ByteArray)] from rfl) (Reps.one (show Kd.M Kd.string _ _ _ (⟨#[115, 43]⟩ : ByteArray) [.string (⟨#[115, 43]⟩ : ByteArray)] from rfl) (Reps.one (show Kd.M Kd.string _ _ _ (⟨#[115, 45]⟩ : ByteArray) [.string (⟨#[115, 45]⟩ : ByteArray)] from rfl) (Reps.one (show Kd.M Kd.string _ _ _ (⟨#[110, 43]⟩ : ByteArray) [.string (⟨#[110, 43]⟩ : ByteArray)] from rfl) (Reps.one (show Kd.M Kd.string _ _ _ (⟨#[110, 45]⟩ : ByteArray) [.string (⟨#[110, 45]⟩ : ByteArray)] from rfl) (Reps.one (show Kd.M Kd.string _ _ _ (⟨#[98, 108, 107]⟩ : ByteArray) [.string (⟨#[98, 108, 107]⟩ : ByteArray)] from rfl) (Reps.one (show Kd.M Kd.string _ _ _ (⟨#[99, 111, 110, 116]⟩ : ByteArray) [.string (⟨#[99, 111, 110, 116]⟩ : ByteArray)] from rfl) (Reps.one (show Kd.M Kd.string _ _ _ (⟨#[105, 110, 100]⟩ : ByteArray) [.string (⟨#[105, 110, 100]⟩ : ByteArray)] from rfl) (Reps.none _ _))))))))))))))); intro v129 w1 ho2 hb hg_ hnew_; clear hg_ hnew_; (first | rw [← Ny128.out] at ho2 | (simp only [Int.reduceToNat] at ho2; rw [← Ny128.out] at ho2)); have HO130 := aK (Kd.R_lower ho2 (bSz bX)); replace HB := aK (bSp bX hb); clear hb ho2))
 go_ret
 exact ⟨_, eX, rX HO130.out, bX⟩
end Go.Proofs.YtbpbniemjjhecaaGreat.PChk
