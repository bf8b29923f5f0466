-- Written by a program of this session (prt.py), out of the translation. Lean checks it.
import Derived.Test.YtgjkjoocnkdckaaZPChk0
import Derived.Test.YtgjkjoocnkdckaaZPChk7
namespace Go.Proofs.Ytgjkjoocnkdckaa.PChk
open Go.RowKit Go.Proofs.Ytgjkjoocnkdckaa.G Go.Proofs.YtgjkjoocnkdckaaW.PrintWords Go.Proofs.YtgjkjoocnkdckaaW.PrintLast Go.Proofs.YtgjkjoocnkdckaaW.PrintMore
attribute [local go_sem] max2_int min2_int max_two min_two max_three min_three max_four min_four   -- for this text's walks alone
set_option linter.unusedVariables false
set_option linter.unusedSimpArgs false
def r2_Dots.l0 : Nat → Int → ByteArray → Int → Option (ByteArray)
 | 0, _, _, _ => none
 | k + 1, x0, x3, x4 => if x4 ≤ 6 then ((r2_weight.f k x4).bind fun t313 => (if t313 = 0 then (none) else (if (Int.tmod (wrap64 (Int.tdiv (wrap64 (x0)) t313)) 2) = 1 then ((some (([(wrap64 (48 + x4)) % 256] : List Int) : List Int)).bind fun y314 => (if x3.size + (strOfNums y314).size ≤ 9223372036854775807 then (r2_Dots.l0 k x0 (x3 ++ (strOfNums y314)) (wrap64 (x4 + 1))) else (none))) else (r2_Dots.l0 k x0 x3 (wrap64 (x4 + 1)))))) else (some x3)
def r2_Dots.f (k : Nat) (a0 : Int) : Option (ByteArray) := r2_Dots.l0 k a0 (⟨#[]⟩ : ByteArray) 1
theorem r2_Dots.mono_l : ∀ k, (∀ y0 y1 y2, LeO (r2_Dots.l0 k y0 y1 y2) (r2_Dots.l0 (k + 1) y0 y1 y2))
 | 0 => fun _ _ _ r h => by simp [r2_Dots.l0] at h
 | k + 1 => by
  have ih0 := r2_Dots.mono_l k
  ·
   intro y0 y1 y2
   unfold r2_Dots.l0
   repeat' first
   | (with_reducible exact ih0 _ _ _)
   | (with_reducible exact r2_weight.mono _ _)
   | (with_reducible exact LeO.refl _)
   | (with_reducible exact LeO.none _)
   | (with_reducible refine LeO.ite ?_ ?_)
   | (with_reducible refine LeO.bind ?_ (fun _ => ?_))
   | exact ih0 _ _ _
   | exact r2_weight.mono _ _
   | exact LeO.none _
   | refine LeO.ite ?_ ?_
   | refine LeO.bind ?_ (fun _ => ?_)
theorem r2_Dots.mono : ∀ a0 k, LeO (r2_Dots.f k a0) (r2_Dots.f (k + 1) a0) := by
 intro a0 k
 have ih0 := r2_Dots.mono_l k
 unfold r2_Dots.f
 repeat' first
   | (with_reducible exact ih0 _ _ _)
   | (with_reducible exact r2_weight.mono _ _)
   | (with_reducible exact LeO.refl _)
   | (with_reducible exact LeO.none _)
   | (with_reducible refine LeO.ite ?_ ?_)
   | (with_reducible refine LeO.bind ?_ (fun _ => ?_))
   | exact ih0 _ _ _
   | exact r2_weight.mono _ _
   | exact LeO.none _
   | refine LeO.ite ?_ ?_
   | refine LeO.bind ?_ (fun _ => ?_)
set_option maxHeartbeats 8000000 in
set_option maxRecDepth 100000 in
theorem r2_Dots.calls (k : Nat) (a0 : Int) (r : ByteArray) (w : World) (h : r2_Dots.f k a0 = some r) :
  Calls Try.prog 64 #[.int .u8 a0] w fun e w' => e = .returned (.string r) ∧ Below w.heap.size w w' := by
 have HB := aK (Below.refl w.heap.size w)
 have H : (r2_Dots.l0 k a0 (⟨#[]⟩ : ByteArray) 1) = some r := h
 clear h
 have H' := aK H
 clear H
 go_enter Try.func64, Try.ntmps64
 go_wp2
 go_loopg [3, 4] k (fun kq v3 v4 w' => ∃ (x3_1 : ByteArray) (x4_1 : Int), v3 = .string x3_1 ∧ v4 = .int .i64 x4_1 ∧ Aside0 (r2_Dots.l0 kq a0 x3_1 x4_1 = some r) ∧ Aside0 (kq ≤ k) ∧ Aside0 (Below w.heap.size w w'))
 case atStart => exact ⟨((⟨#[]⟩ : ByteArray)), (1), (by first | rfl | (simp; done) | (simp [*]; done)), (by first | rfl | (simp; done) | (simp [*]; done)), H', ⟨Nat.le_refl _⟩, ⟨by repeat (first | (with_reducible first | exact HB.out | apply bAl | apply pbD | apply bD1) | exact HB.out)⟩⟩
 case round =>
  clear H'
  obtain ⟨x3_1, x4_1, rfl, rfl, HA, HK1, HB⟩ := hrel
  cases gk with
  | zero => exact absurd HA.out (by simp [r2_Dots.l0])
  | succ k1 =>
   have H := HA.out
   clear HA
   simp only [r2_Dots.l0] at H
   by_cases c2 : x4_1 ≤ 6
   ·
    rw [if_pos c2] at H
    have c2b0 : decide (x4_1 ≤ 6) = true := decide_eq_true c2
    clear c2
    replace H := oB H
    obtain ⟨t313, A30, H⟩ := H
    try dsimp only at H
    have A3 := aK A30
    clear A30
    by_cases c4 : t313 = 0
    ·
     rw [if_pos c4] at H
     exact absurd H (by simp)
    ·
     rw [if_neg c4] at H
     have c4b0 : (t313 == 0) = false := beq_eq_false_iff_ne.mpr c4
     have c4b1 : (t313 != 0) = true := bne_iff_ne.mpr c4
     by_cases c5 : (Int.tmod (wrap64 (Int.tdiv (wrap64 (a0)) t313)) 2) = 1
     ·
      rw [if_pos c5] at H
      have c5b0 : ((Int.tmod (wrap64 (Int.tdiv (wrap64 (a0)) t313)) 2) == 1) = true := beq_iff_eq.mpr c5
      have c5b1 : ((Int.tmod (wrap64 (Int.tdiv (wrap64 (a0)) t313)) 2) != 1) = false := bne_eq_false_iff_eq.mpr c5
      clear c5
      obtain ⟨y314, hy314⟩ : ∃ y_ : List Int, y_ = (([(wrap64 (48 + x4_1)) % 256] : List Int)) := ⟨_, rfl⟩
      replace H : (if x3_1.size + (strOfNums y314).size ≤ 9223372036854775807 then (r2_Dots.l0 k1 a0 (x3_1 ++ (strOfNums y314)) (wrap64 (x4_1 + 1))) else (none)) = some r := by first | (rw [hy314]; with_reducible exact H) | (have H2_ := (Option.bind_some _ _).symm.trans H; rw [hy314]; with_reducible exact H2_) | (have H2_ := (Option.bind_some _ _).symm.trans H; with_reducible exact H2_) | with_reducible exact H | (rw [hy314]; exact H) | exact H
      have Ny314 := aK hy314
      clear hy314
      by_cases c6 : x3_1.size + (strOfNums y314).size ≤ 9223372036854775807
      ·
       rw [if_pos c6] at H
       have c6b0 := eq_true c6
       have c6b1 : decide (x3_1.size + (strOfNums y314).size ≤ 9223372036854775807) = true := decide_eq_true c6
       try have c6b2 : (9223372036854775807 < x3_1.size + (strOfNums y314).size) = False := eq_false (Nat.not_lt.2 c6)
       have H' := aK H
       clear H
       go_wp2_with (first | ((with_reducible refine gate_callee (f := 77) rfl ?_); refine goesL_ (some 12) rfl rfl Try.func77 (by kernel_rfl) rfl #[.int .i64 x4_1] rfl (by (try simp only [qM0, qM1, qM2]); first | done | rfl | (simp only [qD0, qD1]; rfl)) ?_; (with_reducible refine (r2_weight.calls k1 x4_1 t313 _ A3.out).mono ?_); rintro e w' ⟨rfl, ⟨nd, rfl⟩⟩; refine ⟨_, rfl, ?_⟩) | ((with_reducible refine gate_dst (N := 20) rfl ?_); refine Kd.R_lit (Kd.int .u8) _ 5 ?hg (N := 20) ?hd (xs := ([(wrap64 (48 + x4_1)) % 256] : List Int)) (inner := [.int .u8 ((wrap64 (48 + x4_1)) % 256)]) (ok := fun _ => True) (okp := fun _ => True) ?hr ?hp (fun _ hk => hk) trivial (Below.refl _ _) (Nat.le_refl _) (by simp) ?_; (case hd => rfl); (case hg => rfl); (case hr => first | (go_simp; done) | (go_simp; rfl)); (case hp => exact (Reps.one (show Kd.M (Kd.int .u8) _ _ _ ((wrap64 (48 + x4_1)) % 256) [.int .u8 ((wrap64 (48 + x4_1)) % 256)] from rfl) (Reps.none _ _))); intro v315 w7 ho8 hb hg_ hnew_; clear hg_ hnew_; (first | rw [← Ny314.out] at ho8 | (simp only [Int.reduceToNat] at ho8; rw [← Ny314.out] at ho8)); have n0_ := aK (Kd.R_lower ho8 (bSz (by repeat (first | (with_reducible first | exact HB.out | apply bAl | apply pbD | apply bD1) | exact HB.out)))); have n1_ := aK (bSp (by repeat (first | (with_reducible first | exact HB.out | apply bAl | apply pbD | apply bD1) | exact HB.out)) hb); clear HB; have HO316 := n0_; have HB := n1_; clear n0_ n1_; clear hb ho8; have hcv9 := own_string (P := Try.prog) Try.underlying36 Try.underlying5 Try.underlying9 (Kd.own_of_R HO316.out)))
       go_roundg k1
       case measure => have := HK1.out; omega
       case rel => exact ⟨(x3_1 ++ (strOfNums y314)), (wrap64 (x4_1 + 1)), (by first | rfl | (simp; done) | (simp [*]; done)), (by first | rfl | (simp; done) | (simp [*]; done)), H', ⟨by have := HK1.out; omega⟩, ⟨by repeat (first | (with_reducible first | exact HB.out | apply bAl | apply pbD | apply bD1) | exact HB.out)⟩⟩
      ·
       rw [if_neg c6] at H
       exact absurd H (by simp)
     ·
      rw [if_neg c5] at H
      have c5b0 : ((Int.tmod (wrap64 (Int.tdiv (wrap64 (a0)) t313)) 2) == 1) = false := beq_eq_false_iff_ne.mpr c5
      have c5b1 : ((Int.tmod (wrap64 (Int.tdiv (wrap64 (a0)) t313)) 2) != 1) = true := bne_iff_ne.mpr c5
      have H' := aK H
      clear H
      go_wp2_with (first | ((with_reducible refine gate_callee (f := 77) rfl ?_); refine goesL_ (some 12) rfl rfl Try.func77 (by kernel_rfl) rfl #[.int .i64 x4_1] rfl (by (try simp only [qM0, qM1, qM2]); first | done | rfl | (simp only [qD0, qD1]; rfl)) ?_; (with_reducible refine (r2_weight.calls k1 x4_1 t313 _ A3.out).mono ?_); rintro e w' ⟨rfl, ⟨nd, rfl⟩⟩; refine ⟨_, rfl, ?_⟩))
      go_roundg k1
      case measure => have := HK1.out; omega
      case rel => exact ⟨(x3_1), (wrap64 (x4_1 + 1)), (by first | rfl | (simp; done) | (simp [*]; done)), (by first | rfl | (simp; done) | (simp [*]; done)), H', ⟨by have := HK1.out; omega⟩, ⟨by repeat (first | (with_reducible first | exact HB.out | apply bAl | apply pbD | apply bD1) | exact HB.out)⟩⟩
   ·
    rw [if_neg c2] at H
    have c2b0 : decide (x4_1 ≤ 6) = false := decide_eq_false c2
    clear c2
    obtain rfl := oI H
    go_wp2
    go_ret
    exact ⟨by first | rfl | (simp [eWn, eWs] <;> rfl) | (simp [*, eWn, eWs] <;> rfl), by repeat (first | (with_reducible first | exact HB.out | apply bAl | apply pbD | apply bD1) | exact HB.out)⟩
mutual
def r2_Print.j0 : Nat → ByteArray → Bool → Option (ByteArray × Int)
 | 0, _, _ => none
 | k + 1, x0, x13 => if x13 = true then (some ((⟨#[]⟩ : ByteArray), 1)) else (r2_Print.l0 k x0 (⟨#[]⟩ : ByteArray) 0)
def r2_Print.l0 : Nat → ByteArray → ByteArray → Int → Option (ByteArray × Int)
 | 0, _, _, _ => none
 | k + 1, x0, x4, x5 => if x5 < (x0.size : Int) then (if 0 ≤ x5 then (if (bt x0 x5) = 0 then (r2_Print.j2 k x0 x4 x5 true) else (r2_Print.j2 k x0 x4 x5 (decide ((bt x0 x5) > 63)))) else (none)) else (some (x4, 0))
def r2_Print.j2 : Nat → ByteArray → ByteArray → Int → Bool → Option (ByteArray × Int)
 | 0, _, _, _, _ => none
 | k + 1, x0, x4, x5, x29 => if x29 = true then (some ((⟨#[]⟩ : ByteArray), 1)) else (if x5 > 0 then (if x4.size + 1 ≤ 9223372036854775807 then (if 0 ≤ x5 then (if x5 < (x0.size : Int) then ((r2_Dots.f k (bt x0 x5)).bind fun t317 => (if (x4 ++ (⟨#[45]⟩ : ByteArray)).size + t317.size ≤ 9223372036854775807 then (r2_Print.l0 k x0 ((x4 ++ (⟨#[45]⟩ : ByteArray)) ++ t317) (wrap64 (x5 + 1))) else (none))) else (none)) else (none)) else (none)) else (if 0 ≤ x5 then (if x5 < (x0.size : Int) then ((r2_Dots.f k (bt x0 x5)).bind fun t318 => (if x4.size + t318.size ≤ 9223372036854775807 then (r2_Print.l0 k x0 (x4 ++ t318) (wrap64 (x5 + 1))) else (none))) else (none)) else (none)))
end
def r2_Print.f (k : Nat) (a0 : ByteArray) : Option (ByteArray × Int) := if (a0.size : Int) = 0 then (r2_Print.j0 k a0 true) else (r2_Print.j0 k a0 (decide ((a0.size : Int) > 4)))
theorem r2_Print.mono_l : ∀ k, (∀ y0 y1, LeO (r2_Print.j0 k y0 y1) (r2_Print.j0 (k + 1) y0 y1)) ∧ (∀ y0 y1 y2, LeO (r2_Print.l0 k y0 y1 y2) (r2_Print.l0 (k + 1) y0 y1 y2)) ∧ (∀ y0 y1 y2 y3, LeO (r2_Print.j2 k y0 y1 y2 y3) (r2_Print.j2 (k + 1) y0 y1 y2 y3))
 | 0 => ⟨fun _ _ r h => by simp [r2_Print.j0] at h, fun _ _ _ r h => by simp [r2_Print.l0] at h, fun _ _ _ _ r h => by simp [r2_Print.j2] at h⟩
 | k + 1 => by
  obtain ⟨ih0, ih1, ih2⟩ := r2_Print.mono_l k
  refine ⟨?_, ?_, ?_⟩
  ·
   intro y0 y1
   unfold r2_Print.j0
   repeat' first
   | (with_reducible exact ih0 _ _)
   | (with_reducible exact ih1 _ _ _)
   | (with_reducible exact ih2 _ _ _ _)
   | (with_reducible exact r2_Dots.mono _ _)
   | (with_reducible exact LeO.refl _)
   | (with_reducible exact LeO.none _)
   | (with_reducible refine LeO.ite ?_ ?_)
   | (with_reducible refine LeO.bind ?_ (fun _ => ?_))
   | exact ih0 _ _
   | exact ih1 _ _ _
   | exact ih2 _ _ _ _
   | exact r2_Dots.mono _ _
   | exact LeO.none _
   | refine LeO.ite ?_ ?_
   | refine LeO.bind ?_ (fun _ => ?_)
  ·
   intro y0 y1 y2
   unfold r2_Print.l0
   repeat' first
   | (with_reducible exact ih0 _ _)
   | (with_reducible exact ih1 _ _ _)
   | (with_reducible exact ih2 _ _ _ _)
   | (with_reducible exact r2_Dots.mono _ _)
   | (with_reducible exact LeO.refl _)
   | (with_reducible exact LeO.none _)
   | (with_reducible refine LeO.ite ?_ ?_)
   | (with_reducible refine LeO.bind ?_ (fun _ => ?_))
   | exact ih0 _ _
   | exact ih1 _ _ _
   | exact ih2 _ _ _ _
   | exact r2_Dots.mono _ _
   | exact LeO.none _
   | refine LeO.ite ?_ ?_
   | refine LeO.bind ?_ (fun _ => ?_)
  ·
   intro y0 y1 y2 y3
   unfold r2_Print.j2
   repeat' first
   | (with_reducible exact ih0 _ _)
   | (with_reducible exact ih1 _ _ _)
   | (with_reducible exact ih2 _ _ _ _)
   | (with_reducible exact r2_Dots.mono _ _)
   | (with_reducible exact LeO.refl _)
   | (with_reducible exact LeO.none _)
   | (with_reducible refine LeO.ite ?_ ?_)
   | (with_reducible refine LeO.bind ?_ (fun _ => ?_))
   | exact ih0 _ _
   | exact ih1 _ _ _
   | exact ih2 _ _ _ _
   | exact r2_Dots.mono _ _
   | exact LeO.none _
   | refine LeO.ite ?_ ?_
   | refine LeO.bind ?_ (fun _ => ?_)
theorem r2_Print.mono : ∀ a0 k, LeO (r2_Print.f k a0) (r2_Print.f (k + 1) a0) := by
 intro a0 k
 obtain ⟨ih0, ih1, ih2⟩ := r2_Print.mono_l k
 unfold r2_Print.f
 repeat' first
   | (with_reducible exact ih0 _ _)
   | (with_reducible exact ih1 _ _ _)
   | (with_reducible exact ih2 _ _ _ _)
   | (with_reducible exact r2_Dots.mono _ _)
   | (with_reducible exact LeO.refl _)
   | (with_reducible exact LeO.none _)
   | (with_reducible refine LeO.ite ?_ ?_)
   | (with_reducible refine LeO.bind ?_ (fun _ => ?_))
   | exact ih0 _ _
   | exact ih1 _ _ _
   | exact ih2 _ _ _ _
   | exact r2_Dots.mono _ _
   | exact LeO.none _
   | refine LeO.ite ?_ ?_
   | refine LeO.bind ?_ (fun _ => ?_)
set_option maxHeartbeats 8000000 in
set_option maxRecDepth 100000 in
theorem r2_Print.calls (k : Nat) (a0 : ByteArray) (r1 : ByteArray) (r2 : Int) (w : World) (h : r2_Print.f k a0 = some (r1, r2)) :
  Calls Try.prog 49 #[.string a0] w fun e w' => e = .returned (.tuple #[.string r1, .int .i64 r2]) ∧ Below w.heap.size w w' := by
 have HB := aK (Below.refl w.heap.size w)
 have H : (if (a0.size : Int) = 0 then (r2_Print.j0 k a0 true) else (r2_Print.j0 k a0 (decide ((a0.size : Int) > 4)))) = some (r1, r2) := h
 clear h
 have HC2 := aK H
 clear H
 go_enter Try.func49, Try.ntmps49
 go_upto_region 1 with (fail)
 go_cut [13] (fun v13 wc => ∃ (kq : Nat) (x13_1 : Bool), v13 = .bool x13_1 ∧ Aside0 (r2_Print.j0 kq a0 x13_1 = some (r1, r2)) ∧ Aside0 (kq ≤ k) ∧ Aside0 (Below w.heap.size w wc))
 case first =>
  have H := HC2.out
  clear HC2
  by_cases c3 : (a0.size : Int) = 0
  ·
   rw [if_pos c3] at H
   have c3b0 : ((a0.size : Int) == 0) = true := beq_iff_eq.mpr c3
   have c3b1 : ((a0.size : Int) != 0) = false := bne_eq_false_iff_eq.mpr c3
   clear c3
   (first | rw [c3b0] | (simp only [i64_w, i32_w]; rw [c3b0]) | skip)
   have H' := aK H
   clear H
   go_wp2
   go_meet
   case rel => exact ⟨_, (true), (by first | rfl | (simp; done) | (simp [*]; done)), H', ⟨by first | omega | exact Nat.le_refl _⟩, ⟨by repeat (first | (with_reducible first | exact HB.out | apply bAl | apply pbD | apply bD1) | exact HB.out)⟩⟩
  ·
   rw [if_neg c3] at H
   have c3b0 : ((a0.size : Int) == 0) = false := beq_eq_false_iff_ne.mpr c3
   have c3b1 : ((a0.size : Int) != 0) = true := bne_iff_ne.mpr c3
   (first | rw [c3b0] | (simp only [i64_w, i32_w]; rw [c3b0]) | skip)
   have H' := aK H
   clear H
   go_wp2
   go_meet
   case rel => exact ⟨_, (decide ((a0.size : Int) > 4)), (by first | rfl | (simp; done) | (simp [*]; done)), H', ⟨by first | omega | exact Nat.le_refl _⟩, ⟨by repeat (first | (with_reducible first | exact HB.out | apply bAl | apply pbD | apply bD1) | exact HB.out)⟩⟩
 case rest =>
  clear HC2
  try clear p2
  try clear c3
  try clear c3b0
  try clear c3b1
  obtain ⟨kq, x13_1, rfl, HA, HJ1, HB⟩ := hcut
  cases kq with
  | zero => exact absurd HA.out (by simp [r2_Print.j0])
  | succ kj1 =>
   have H := HA.out
   clear HA
   simp only [r2_Print.j0] at H
   by_cases c4 : x13_1 = true
   ·
    subst c4
    have H1 : (some ((⟨#[]⟩ : ByteArray), 1)) = some (r1, r2) := by rw [if_pos rfl] at H; exact H
    clear H
    have H := H1
    clear H1
    simp only [Option.some.injEq, Prod.mk.injEq] at H
    obtain ⟨rfl, rfl⟩ := H
    go_wp2
    go_ret2
    exact ⟨by first | rfl | (simp [eWn, eWs] <;> rfl) | (simp [*, eWn, eWs] <;> rfl), by repeat (first | (with_reducible first | exact HB.out | apply bAl | apply pbD | apply bD1) | exact HB.out)⟩
   ·
    replace c4 := Bool.eq_false_iff.mpr c4
    subst c4
    have H1 : (r2_Print.l0 kj1 a0 (⟨#[]⟩ : ByteArray) 0) = some (r1, r2) := by rw [if_neg (show ¬ (false = true) by decide)] at H; exact H
    clear H
    have H := H1
    clear H1
    have H' := aK H
    clear H
    go_wp2
    go_loopg [4, 5] kj1 (fun kq v4 v5 w' => ∃ (x4_2 : ByteArray) (x5_2 : Int), v4 = .string x4_2 ∧ v5 = .int .i64 x5_2 ∧ Aside0 (r2_Print.l0 kq a0 x4_2 x5_2 = some (r1, r2)) ∧ Aside0 (kq ≤ kj1) ∧ Aside0 (Below w.heap.size w w'))
    case atStart => exact ⟨((⟨#[]⟩ : ByteArray)), (0), (by first | rfl | (simp; done) | (simp [*]; done)), (by first | rfl | (simp; done) | (simp [*]; done)), H', ⟨Nat.le_refl _⟩, ⟨by repeat (first | (with_reducible first | exact HB.out | apply bAl | apply pbD | apply bD1) | exact HB.out)⟩⟩
    case round =>
     clear H'
     try clear p2
     try clear c3
     try clear c3b0
     try clear c3b1
     try clear c4
     try clear p2
     obtain ⟨x4_2, x5_2, rfl, rfl, HA, HK2, HB⟩ := hrel
     cases gk with
     | zero => exact absurd HA.out (by simp [r2_Print.l0])
     | succ k2 =>
      have H := HA.out
      clear HA
      simp only [r2_Print.l0] at H
      by_cases c5 : x5_2 < (a0.size : Int)
      ·
       rw [if_pos c5] at H
       have c5b0 : decide (x5_2 < (a0.size : Int)) = true := decide_eq_true c5
       clear c5
       have HC6 := aK H
       clear H
       go_upto_region 7 with (fail)
       go_cut [29] (fun v29 wc => ∃ (kq : Nat) (x29_5 : Bool), v29 = .bool x29_5 ∧ Aside0 (r2_Print.j2 kq a0 x4_2 x5_2 x29_5 = some (r1, r2)) ∧ Aside0 (kq ≤ k2) ∧ Aside0 (Below w.heap.size w wc))
       case first =>
        have H := HC6.out
        clear HC6
        by_cases c7 : 0 ≤ x5_2
        ·
         rw [if_pos c7] at H
         have c7b0 : decide (0 ≤ x5_2) = true := decide_eq_true c7
         clear c7
         (first | rw [c7b0] | (simp only [i64_w, i32_w]; rw [c7b0]) | skip)
         by_cases c9 : (bt a0 x5_2) = 0
         ·
          rw [if_pos c9] at H
          have c9b0 : ((bt a0 x5_2) == 0) = true := beq_iff_eq.mpr c9
          have c9b1 : ((bt a0 x5_2) != 0) = false := bne_eq_false_iff_eq.mpr c9
          clear c9
          have H' := aK H
          clear H
          have p8 : 0 ≤ (x5_2 : Int) := odT (by first | (with_reducible assumption) | assumption)
          have q8 : x5_2 < (a0.size : Int) := odT (by first | (with_reducible assumption) | assumption)
          have hx8 := bt_at a0 x5_2
          replace p8 := eq_true p8
          replace q8 := eq_true q8
          go_wp2
          go_meet
          case rel => exact ⟨_, (true), (by first | rfl | (simp; done) | (simp [*]; done)), H', ⟨by have := HJ1.out; have := HK2.out; first | omega | exact Nat.le_refl _⟩, ⟨by repeat (first | (with_reducible first | exact HB.out | apply bAl | apply pbD | apply bD1) | exact HB.out)⟩⟩
         ·
          rw [if_neg c9] at H
          have c9b0 : ((bt a0 x5_2) == 0) = false := beq_eq_false_iff_ne.mpr c9
          have c9b1 : ((bt a0 x5_2) != 0) = true := bne_iff_ne.mpr c9
          have H' := aK H
          clear H
          have p8 : 0 ≤ (x5_2 : Int) := odT (by first | (with_reducible assumption) | assumption)
          have q8 : x5_2 < (a0.size : Int) := odT (by first | (with_reducible assumption) | assumption)
          have hx8 := bt_at a0 x5_2
          replace p8 := eq_true p8
          replace q8 := eq_true q8
          have p10 : 0 ≤ (x5_2 : Int) := odT (by first | (with_reducible assumption) | assumption)
          have q10 : x5_2 < (a0.size : Int) := odT (by first | (with_reducible assumption) | assumption)
          have hx10 := bt_at a0 x5_2
          replace p10 := eq_true p10
          replace q10 := eq_true q10
          go_wp2
          go_meet
          case rel => exact ⟨_, (decide ((bt a0 x5_2) > 63)), (by first | rfl | (simp; done) | (simp [*]; done)), H', ⟨by have := HJ1.out; have := HK2.out; first | omega | exact Nat.le_refl _⟩, ⟨by repeat (first | (with_reducible first | exact HB.out | apply bAl | apply pbD | apply bD1) | exact HB.out)⟩⟩
        ·
         rw [if_neg c7] at H
         exact absurd H (by simp)
       case rest =>
        clear HC6
        try clear p1
        try clear q1
        try clear hx1
        try clear p2
        try clear c3
        try clear c3b0
        try clear c3b1
        try clear c4
        try clear c5
        try clear c5b0
        try clear c7
        try clear c7b0
        try clear p8
        try clear q8
        try clear hx8
        try clear c9
        try clear c9b0
        try clear c9b1
        try clear p10
        try clear q10
        try clear hx10
        try clear p10
        try clear p2
        try clear p8
        try clear q10
        try clear q8
        obtain ⟨kq, x29_5, rfl, HA, HJ5, HB⟩ := hcut
        cases kq with
        | zero => exact absurd HA.out (by simp [r2_Print.j2])
        | succ kj5 =>
         have H := HA.out
         clear HA
         simp only [r2_Print.j2] at H
         by_cases c11 : x29_5 = true
         ·
          subst c11
          have H1 : (some ((⟨#[]⟩ : ByteArray), 1)) = some (r1, r2) := by rw [if_pos rfl] at H; exact H
          clear H
          have H := H1
          clear H1
          simp only [Option.some.injEq, Prod.mk.injEq] at H
          obtain ⟨rfl, rfl⟩ := H
          go_wp2
          go_ret2
          exact ⟨by first | rfl | (simp [eWn, eWs] <;> rfl) | (simp [*, eWn, eWs] <;> rfl), by repeat (first | (with_reducible first | exact HB.out | apply bAl | apply pbD | apply bD1) | exact HB.out)⟩
         ·
          replace c11 := Bool.eq_false_iff.mpr c11
          subst c11
          have H1 : (if x5_2 > 0 then (if x4_2.size + 1 ≤ 9223372036854775807 then (if 0 ≤ x5_2 then (if x5_2 < (a0.size : Int) then ((r2_Dots.f kj5 (bt a0 x5_2)).bind fun t317 => (if (x4_2 ++ (⟨#[45]⟩ : ByteArray)).size + t317.size ≤ 9223372036854775807 then (r2_Print.l0 kj5 a0 ((x4_2 ++ (⟨#[45]⟩ : ByteArray)) ++ t317) (wrap64 (x5_2 + 1))) else (none))) else (none)) else (none)) else (none)) else (if 0 ≤ x5_2 then (if x5_2 < (a0.size : Int) then ((r2_Dots.f kj5 (bt a0 x5_2)).bind fun t318 => (if x4_2.size + t318.size ≤ 9223372036854775807 then (r2_Print.l0 kj5 a0 (x4_2 ++ t318) (wrap64 (x5_2 + 1))) else (none))) else (none)) else (none))) = some (r1, r2) := by rw [if_neg (show ¬ (false = true) by decide)] at H; exact H
          clear H
          have H := H1
          clear H1
          by_cases c12 : x5_2 > 0
          ·
           rw [if_pos c12] at H
           have c12b0 : decide (0 < x5_2) = true := decide_eq_true c12
           clear c12
           by_cases c13 : x4_2.size + 1 ≤ 9223372036854775807
           ·
            rw [if_pos c13] at H
            have c13b0 := eq_true c13
            have c13b1 : decide (x4_2.size + 1 ≤ 9223372036854775807) = true := decide_eq_true c13
            try have c13b2 : (9223372036854775807 < x4_2.size + 1) = False := eq_false (Nat.not_lt.2 c13)
            by_cases c14 : 0 ≤ x5_2
            ·
             rw [if_pos c14] at H
             have c14b0 : decide (0 ≤ x5_2) = true := decide_eq_true c14
             clear c14
             by_cases c15 : x5_2 < (a0.size : Int)
             ·
              rw [if_pos c15] at H
              have c15b0 : decide (x5_2 < (a0.size : Int)) = true := decide_eq_true c15
              clear c15
              replace H := oB H
              obtain ⟨t317, A170, H⟩ := H
              try dsimp only at H
              have A17 := aK A170
              clear A170
              by_cases c18 : (x4_2 ++ (⟨#[45]⟩ : ByteArray)).size + t317.size ≤ 9223372036854775807
              ·
               rw [if_pos c18] at H
               have c18b0 := eq_true c18
               have c18b1 : decide ((x4_2 ++ (⟨#[45]⟩ : ByteArray)).size + t317.size ≤ 9223372036854775807) = true := decide_eq_true c18
               try have c18b2 : (9223372036854775807 < (x4_2 ++ (⟨#[45]⟩ : ByteArray)).size + t317.size) = False := eq_false (Nat.not_lt.2 c18)
               try have c18b2r : (9223372036854775807 < x4_2.size + 1 + t317.size) = False := (by have h_ := c18; simp only [ByteArray.size_append] at h_; exact eq_false (Nat.not_lt.2 h_))
               have H' := aK H
               clear H
               have p16 : 0 ≤ (x5_2 : Int) := odT (by first | (with_reducible assumption) | assumption)
               have q16 : x5_2 < (a0.size : Int) := odT (by first | (with_reducible assumption) | assumption)
               have hx16 := bt_at a0 x5_2
               replace p16 := eq_true p16
               replace q16 := eq_true q16
               go_wp2_with (first | ((with_reducible refine gate_callee (f := 64) rfl ?_); refine goesL_ (some 38) rfl rfl Try.func64 (by kernel_rfl) rfl #[.int .u8 (bt a0 x5_2)] rfl (by (try simp only [qM0, qM1, qM2]); first | done | rfl | (simp only [qD0, qD1]; rfl)) ?_; (with_reducible refine (r2_Dots.calls kj5 (bt a0 x5_2) t317 _ A17.out).mono ?_); rintro e w19 ⟨rfl, hb⟩; refine ⟨_, rfl, ?_⟩; have n0_ := aK (bSp (by repeat (first | (with_reducible first | exact HB.out | apply bAl | apply pbD | apply bD1) | exact HB.out)) hb); clear HB; have HB := n0_; clear n0_; (try clear hb); (try clear hb2); (try clear hk); (try clear hi)))
               go_roundg kj5
               case measure => have := HJ1.out; have := HK2.out; have := HJ5.out; omega
               case rel => exact ⟨((x4_2 ++ (⟨#[45]⟩ : ByteArray)) ++ t317), (wrap64 (x5_2 + 1)), (by first | rfl | (simp; done) | (simp [*]; done)), (by first | rfl | (simp; done) | (simp [*]; done)), H', ⟨by have := HJ1.out; have := HK2.out; have := HJ5.out; omega⟩, ⟨by repeat (first | (with_reducible first | exact HB.out | apply bAl | apply pbD | apply bD1) | exact HB.out)⟩⟩
              ·
               rw [if_neg c18] at H
               exact absurd H (by simp)
             ·
              rw [if_neg c15] at H
              exact absurd H (by simp)
            ·
             rw [if_neg c14] at H
             exact absurd H (by simp)
           ·
            rw [if_neg c13] at H
            exact absurd H (by simp)
          ·
           rw [if_neg c12] at H
           have c12b0 : decide (0 < x5_2) = false := decide_eq_false c12
           clear c12
           by_cases c20 : 0 ≤ x5_2
           ·
            rw [if_pos c20] at H
            have c20b0 : decide (0 ≤ x5_2) = true := decide_eq_true c20
            clear c20
            by_cases c21 : x5_2 < (a0.size : Int)
            ·
             rw [if_pos c21] at H
             have c21b0 : decide (x5_2 < (a0.size : Int)) = true := decide_eq_true c21
             clear c21
             replace H := oB H
             obtain ⟨t318, A230, H⟩ := H
             try dsimp only at H
             have A23 := aK A230
             clear A230
             by_cases c24 : x4_2.size + t318.size ≤ 9223372036854775807
             ·
              rw [if_pos c24] at H
              have c24b0 := eq_true c24
              have c24b1 : decide (x4_2.size + t318.size ≤ 9223372036854775807) = true := decide_eq_true c24
              try have c24b2 : (9223372036854775807 < x4_2.size + t318.size) = False := eq_false (Nat.not_lt.2 c24)
              have H' := aK H
              clear H
              have p22 : 0 ≤ (x5_2 : Int) := odT (by first | (with_reducible assumption) | assumption)
              have q22 : x5_2 < (a0.size : Int) := odT (by first | (with_reducible assumption) | assumption)
              have hx22 := bt_at a0 x5_2
              replace p22 := eq_true p22
              replace q22 := eq_true q22
              go_wp2_with (first | ((with_reducible refine gate_callee (f := 64) rfl ?_); refine goesL_ (some 38) rfl rfl Try.func64 (by kernel_rfl) rfl #[.int .u8 (bt a0 x5_2)] rfl (by (try simp only [qM0, qM1, qM2]); first | done | rfl | (simp only [qD0, qD1]; rfl)) ?_; (with_reducible refine (r2_Dots.calls kj5 (bt a0 x5_2) t318 _ A23.out).mono ?_); rintro e w25 ⟨rfl, hb⟩; refine ⟨_, rfl, ?_⟩; have n0_ := aK (bSp (by repeat (first | (with_reducible first | exact HB.out | apply bAl | apply pbD | apply bD1) | exact HB.out)) hb); clear HB; have HB := n0_; clear n0_; (try clear hb); (try clear hb2); (try clear hk); (try clear hi)))
              go_roundg kj5
              case measure => have := HJ1.out; have := HK2.out; have := HJ5.out; omega
              case rel => exact ⟨(x4_2 ++ t318), (wrap64 (x5_2 + 1)), (by first | rfl | (simp; done) | (simp [*]; done)), (by first | rfl | (simp; done) | (simp [*]; done)), H', ⟨by have := HJ1.out; have := HK2.out; have := HJ5.out; omega⟩, ⟨by repeat (first | (with_reducible first | exact HB.out | apply bAl | apply pbD | apply bD1) | exact HB.out)⟩⟩
             ·
              rw [if_neg c24] at H
              exact absurd H (by simp)
            ·
             rw [if_neg c21] at H
             exact absurd H (by simp)
           ·
            rw [if_neg c20] at H
            exact absurd H (by simp)
      ·
       rw [if_neg c5] at H
       have c5b0 : decide (x5_2 < (a0.size : Int)) = false := decide_eq_false c5
       clear c5
       simp only [Option.some.injEq, Prod.mk.injEq] at H
       obtain ⟨rfl, rfl⟩ := H
       go_wp2
       go_ret2
       exact ⟨by first | rfl | (simp [eWn, eWs] <;> rfl) | (simp [*, eWn, eWs] <;> rfl), by repeat (first | (with_reducible first | exact HB.out | apply bAl | apply pbD | apply bD1) | exact HB.out)⟩
def r8_May.j0 : Nat → Bool → Int → ByteArray → ByteArray → Int → Int → Option (Bool)
 | 0, _, _, _, _, _, _ => none
 | k + 1, x20, x320000, x320001, x320002, x320003, x320004 => if x20 = true then (some false) else ((r2_Print.f k x320002).bind fun bt321 => (if bt321.2 = 0 then (if x320000 ≤ 5 then (if x320003 ≥ 0 then (some (decide (x320003 ≤ 99))) else (some false)) else (some (x320003 == 0))) else (some false)))
def r8_May.f (k : Nat) (a0_0 : Int) (a0_1 : ByteArray) (a0_2 : ByteArray) (a0_3 : Int) (a0_4 : Int) : Option (Bool) := if a0_0 < 1 then (r8_May.j0 k true a0_0 a0_1 a0_2 a0_3 a0_4) else (if a0_0 > 8 then (r8_May.j0 k true a0_0 a0_1 a0_2 a0_3 a0_4) else ((r8_left.f k a0_0 a0_1).bind fun t320 => (r8_May.j0 k (!t320) a0_0 a0_1 a0_2 a0_3 a0_4)))
theorem r8_May.mono_l : ∀ k, (∀ y0 y1 y2 y3 y4 y5, LeO (r8_May.j0 k y0 y1 y2 y3 y4 y5) (r8_May.j0 (k + 1) y0 y1 y2 y3 y4 y5))
 | 0 => fun _ _ _ _ _ _ r h => by simp [r8_May.j0] at h
 | k + 1 => by
  have ih0 := r8_May.mono_l k
  ·
   intro y0 y1 y2 y3 y4 y5
   unfold r8_May.j0
   repeat' first
   | (with_reducible exact ih0 _ _ _ _ _ _)
   | (with_reducible exact r2_Print.mono _ _)
   | (with_reducible exact r8_left.mono _ _ _)
   | (with_reducible exact LeO.refl _)
   | (with_reducible exact LeO.none _)
   | (with_reducible refine LeO.ite ?_ ?_)
   | (with_reducible refine LeO.bind ?_ (fun _ => ?_))
   | exact ih0 _ _ _ _ _ _
   | exact r2_Print.mono _ _
   | exact r8_left.mono _ _ _
   | exact LeO.none _
   | refine LeO.ite ?_ ?_
   | refine LeO.bind ?_ (fun _ => ?_)
theorem r8_May.mono : ∀ a0 a1 a2 a3 a4 k, LeO (r8_May.f k a0 a1 a2 a3 a4) (r8_May.f (k + 1) a0 a1 a2 a3 a4) := by
 intro a0 a1 a2 a3 a4 k
 have ih0 := r8_May.mono_l k
 unfold r8_May.f
 repeat' first
   | (with_reducible exact ih0 _ _ _ _ _ _)
   | (with_reducible exact r2_Print.mono _ _)
   | (with_reducible exact r8_left.mono _ _ _)
   | (with_reducible exact LeO.refl _)
   | (with_reducible exact LeO.none _)
   | (with_reducible refine LeO.ite ?_ ?_)
   | (with_reducible refine LeO.bind ?_ (fun _ => ?_))
   | exact ih0 _ _ _ _ _ _
   | exact r2_Print.mono _ _
   | exact r8_left.mono _ _ _
   | exact LeO.none _
   | refine LeO.ite ?_ ?_
   | refine LeO.bind ?_ (fun _ => ?_)
set_option maxHeartbeats 8000000 in
set_option maxRecDepth 100000 in
theorem r8_May.calls (k : Nat) (a0_0 : Int) (a0_1 : ByteArray) (a0_2 : ByteArray) (a0_3 : Int) (a0_4 : Int) (r : Bool) (w : World) (h : r8_May.f k a0_0 a0_1 a0_2 a0_3 a0_4 = some r) :
  Calls Try.prog 30 #[.agg #[.int .i64 a0_0, .string a0_1, .string a0_2, .int .i64 a0_3, .int .i64 a0_4]] w fun e w' => e = .returned (.bool r) ∧ Below w.heap.size w w' := by
 have hu23 := Try.underlying23
 have HB := aK (Below.refl w.heap.size w)
 have H : (if a0_0 < 1 then (r8_May.j0 k true a0_0 a0_1 a0_2 a0_3 a0_4) else (if a0_0 > 8 then (r8_May.j0 k true a0_0 a0_1 a0_2 a0_3 a0_4) else ((r8_left.f k a0_0 a0_1).bind fun t320 => (r8_May.j0 k (!t320) a0_0 a0_1 a0_2 a0_3 a0_4)))) = some r := h
 clear h
 have HC2 := aK H
 clear H
 go_enter Try.func30, Try.ntmps30
 go_upto_region 1 with (first | ((with_reducible refine gate_dst (N := 1) rfl ?_); refine box_event ?hg (N := 1) ?hd (cs := #[.int .i64 a0_0, .string a0_1, .string a0_2, .int .i64 a0_3, .int .i64 a0_4]) (t := 23) ?hr ?_; (case hd => rfl); (case hg => rfl); (case hr => first | (go_simp; done) | (go_simp; rfl)); intro gb319 hg w3 hbox hb; have n0_ := aK (bSp (by repeat (first | (with_reducible first | exact HB.out | apply bAl | apply pbD | apply bD1) | exact HB.out)) hb); have n1_ := aK (hbox); have n2_ := aK ((by rw [hg]; exact (bSz (by repeat (first | (with_reducible first | exact HB.out | apply bAl | apply pbD | apply bD1) | exact HB.out))) : w.heap.size ≤ gb319)); have n3_ := aK ((by rw [hg]; exact (bSz (by repeat (first | (with_reducible first | exact HB.out | apply bAl | apply pbD | apply bD1) | exact HB.out))) : w.heap.size ≤ gb319)); clear HB; have HB := n0_; have BK319 := n1_; have GW319 := n2_; have GE319 := n3_; clear n0_ n1_ n2_ n3_; clear hb hbox hg))
 (try simp only [Act.put, qSa, qS0, qS1])
 go_cut [20] (fun v20 wc => ∃ (kq : Nat) (x20_1 : Bool), v20 = .bool x20_1 ∧ Aside0 (r8_May.j0 kq x20_1 a0_0 a0_1 a0_2 a0_3 a0_4 = some r) ∧ Aside0 (kq ≤ k) ∧ Aside0 (wc.heap[gb319]? = some (.cells #[.int .i64 a0_0, .string a0_1, .string a0_2, .int .i64 a0_3, .int .i64 a0_4] 23 (0, 0))) ∧ Aside0 (Below w.heap.size w wc))
 case first =>
  have H := HC2.out
  clear HC2
  by_cases c4 : a0_0 < 1
  ·
   rw [if_pos c4] at H
   have c4b0 : decide (a0_0 < 1) = true := decide_eq_true c4
   clear c4
   (first | rw [c4b0] | (simp only [i64_w, i32_w]; rw [c4b0]) | skip)
   have H' := aK H
   clear H
   have hcz5_0 : w3.cell? ⟨gb319, 0, none⟩ = some (.int .i64 a0_0) := (kCe BK319.out 0).trans rfl
   have hcz5_1 : w3.cell? ⟨gb319, 1, none⟩ = some (.string a0_1) := (kCe BK319.out 1).trans rfl
   have hcz5_2 : w3.cell? ⟨gb319, 2, none⟩ = some (.string a0_2) := (kCe BK319.out 2).trans rfl
   have hcz5_3 : w3.cell? ⟨gb319, 3, none⟩ = some (.int .i64 a0_3) := (kCe BK319.out 3).trans rfl
   have hcz5_4 : w3.cell? ⟨gb319, 4, none⟩ = some (.int .i64 a0_4) := (kCe BK319.out 4).trans rfl
   go_wp2
   go_meet
   case rel => exact ⟨_, (true), (by first | rfl | (simp; done) | (simp [*]; done)), H', ⟨by first | omega | exact Nat.le_refl _⟩, ⟨by (with_reducible repeat (first | refine kDN ?_ _ | refine kDr ?_ | refine kAl ?_ _)); exact BK319.out⟩, ⟨by repeat (first | (with_reducible first | exact HB.out | apply bAl | apply pbD | apply bD1 | refine bSt ?_ GE319.out) | exact HB.out)⟩⟩
  ·
   rw [if_neg c4] at H
   have c4b0 : decide (a0_0 < 1) = false := decide_eq_false c4
   clear c4
   (first | rw [c4b0] | (simp only [i64_w, i32_w]; rw [c4b0]) | skip)
   by_cases c6 : a0_0 > 8
   ·
    rw [if_pos c6] at H
    have c6b0 : decide (8 < a0_0) = true := decide_eq_true c6
    clear c6
    have H' := aK H
    clear H
    have hcz7_0 : w3.cell? ⟨gb319, 0, none⟩ = some (.int .i64 a0_0) := (kCe BK319.out 0).trans rfl
    have hcz7_1 : w3.cell? ⟨gb319, 1, none⟩ = some (.string a0_1) := (kCe BK319.out 1).trans rfl
    have hcz7_2 : w3.cell? ⟨gb319, 2, none⟩ = some (.string a0_2) := (kCe BK319.out 2).trans rfl
    have hcz7_3 : w3.cell? ⟨gb319, 3, none⟩ = some (.int .i64 a0_3) := (kCe BK319.out 3).trans rfl
    have hcz7_4 : w3.cell? ⟨gb319, 4, none⟩ = some (.int .i64 a0_4) := (kCe BK319.out 4).trans rfl
    go_wp2
    go_meet
    case rel => exact ⟨_, (true), (by first | rfl | (simp; done) | (simp [*]; done)), H', ⟨by first | omega | exact Nat.le_refl _⟩, ⟨by (with_reducible repeat (first | refine kDN ?_ _ | refine kDr ?_ | refine kAl ?_ _)); exact BK319.out⟩, ⟨by repeat (first | (with_reducible first | exact HB.out | apply bAl | apply pbD | apply bD1 | refine bSt ?_ GE319.out) | exact HB.out)⟩⟩
   ·
    rw [if_neg c6] at H
    have c6b0 : decide (8 < a0_0) = false := decide_eq_false c6
    clear c6
    replace H := oB H
    obtain ⟨t320, A80, H⟩ := H
    try dsimp only at H
    have A8 := aK A80
    clear A80
    have H' := aK H
    clear H
    have hcz9_0 : w3.cell? ⟨gb319, 0, none⟩ = some (.int .i64 a0_0) := (kCe BK319.out 0).trans rfl
    have hcz9_1 : w3.cell? ⟨gb319, 1, none⟩ = some (.string a0_1) := (kCe BK319.out 1).trans rfl
    have hcz9_2 : w3.cell? ⟨gb319, 2, none⟩ = some (.string a0_2) := (kCe BK319.out 2).trans rfl
    have hcz9_3 : w3.cell? ⟨gb319, 3, none⟩ = some (.int .i64 a0_3) := (kCe BK319.out 3).trans rfl
    have hcz9_4 : w3.cell? ⟨gb319, 4, none⟩ = some (.int .i64 a0_4) := (kCe BK319.out 4).trans rfl
    go_wp2_with (first | (go_at_call 48; (with_reducible refine (r8_left.calls k a0_0 a0_1 t320 _ A8.out).mono ?_); rintro e w10 ⟨rfl, hb⟩; have n0_ := aK (kBe (g := gb319) (o := .cells #[.int .i64 a0_0, .string a0_1, .string a0_2, .int .i64 a0_3, .int .i64 a0_4] 23 (0, 0)) (by (with_reducible repeat (first | refine kDN ?_ _ | refine kDr ?_ | refine kAl ?_ _)); exact BK319.out) hb); have n1_ := aK (bSp (by repeat (first | (with_reducible first | exact HB.out | apply bAl | apply pbD | apply bD1 | refine bSt ?_ GE319.out) | exact HB.out)) hb); clear BK319; clear HB; have BK319 := n0_; have HB := n1_; clear n0_ n1_; (try clear hb); (try clear hb2); (try clear hk); (try clear hi)))
    go_meet
    case rel => exact ⟨_, (!t320), (by first | rfl | (simp; done) | (simp [*]; done)), H', ⟨by first | omega | exact Nat.le_refl _⟩, ⟨by (with_reducible repeat (first | refine kDN ?_ _ | refine kDr ?_ | refine kAl ?_ _)); exact BK319.out⟩, ⟨by repeat (first | (with_reducible first | exact HB.out | apply bAl | apply pbD | apply bD1 | refine bSt ?_ GE319.out) | exact HB.out)⟩⟩
 case rest =>
  clear HC2
  try clear p2
  try clear c3
  try clear c4
  try clear c4b0
  try clear c6
  try clear c6b0
  try clear hcz5_0
  try clear hcz5_1
  try clear hcz5_2
  try clear hcz5_3
  try clear hcz5_4
  try clear hcz7_0
  try clear hcz7_1
  try clear hcz7_2
  try clear hcz7_3
  try clear hcz7_4
  try clear hcz9_0
  try clear hcz9_1
  try clear hcz9_2
  try clear hcz9_3
  try clear hcz9_4
  obtain ⟨kq, x20_1, rfl, HA, HJ1, BK319, HB⟩ := hcut
  cases kq with
  | zero => exact absurd HA.out (by simp [r8_May.j0])
  | succ kj1 =>
   have H := HA.out
   clear HA
   simp only [r8_May.j0] at H
   by_cases c11 : x20_1 = true
   ·
    subst c11
    have H1 : (some false) = some r := by rw [if_pos rfl] at H; exact H
    clear H
    have H := H1
    clear H1
    obtain rfl := oI H
    go_wp2
    go_ret
    exact ⟨by first | rfl | (simp [eWn, eWs] <;> rfl) | (simp [*, eWn, eWs] <;> rfl), by repeat (first | (with_reducible first | exact HB.out | apply bAl | apply pbD | apply bD1 | refine bSt ?_ GE319.out) | exact HB.out)⟩
   ·
    replace c11 := Bool.eq_false_iff.mpr c11
    subst c11
    have H1 : ((r2_Print.f kj1 a0_2).bind fun bt321 => (if bt321.2 = 0 then (if a0_0 ≤ 5 then (if a0_3 ≥ 0 then (some (decide (a0_3 ≤ 99))) else (some false)) else (some (a0_3 == 0))) else (some false))) = some r := by rw [if_neg (show ¬ (false = true) by decide)] at H; exact H
    clear H
    have H := H1
    clear H1
    replace H := oB H
    obtain ⟨⟨t321, t322⟩, A120, H⟩ := H
    try dsimp only at H
    have A12 := aK A120
    clear A120
    by_cases c13 : t322 = 0
    ·
     rw [if_pos c13] at H
     have c13b0 : (t322 == 0) = true := beq_iff_eq.mpr c13
     have c13b1 : (t322 != 0) = false := bne_eq_false_iff_eq.mpr c13
     clear c13
     by_cases c14 : a0_0 ≤ 5
     ·
      rw [if_pos c14] at H
      have c14b0 : decide (a0_0 ≤ 5) = true := decide_eq_true c14
      clear c14
      by_cases c15 : a0_3 ≥ 0
      ·
       rw [if_pos c15] at H
       have c15b0 : decide (0 ≤ a0_3) = true := decide_eq_true c15
       clear c15
       obtain rfl := oI H
       have hcz16_0 : wc.cell? ⟨gb319, 0, none⟩ = some (.int .i64 a0_0) := (kCe BK319.out 0).trans rfl
       have hcz16_1 : wc.cell? ⟨gb319, 1, none⟩ = some (.string a0_1) := (kCe BK319.out 1).trans rfl
       have hcz16_2 : wc.cell? ⟨gb319, 2, none⟩ = some (.string a0_2) := (kCe BK319.out 2).trans rfl
       have hcz16_3 : wc.cell? ⟨gb319, 3, none⟩ = some (.int .i64 a0_3) := (kCe BK319.out 3).trans rfl
       have hcz16_4 : wc.cell? ⟨gb319, 4, none⟩ = some (.int .i64 a0_4) := (kCe BK319.out 4).trans rfl
       go_wp2_with (first | ((with_reducible refine gate_callee (f := 49) rfl ?_); refine goesL_ (some 24) rfl rfl Try.func49 (by kernel_rfl) rfl #[.string a0_2] rfl (by (try simp only [qM0, qM1, qM2]); first | done | rfl | (simp only [qD0, qD1]; rfl)) ?_; (with_reducible refine (r2_Print.calls kj1 a0_2 t321 t322 _ A12.out).mono ?_); rintro e w17 ⟨rfl, hb⟩; refine ⟨_, rfl, ?_⟩; have n0_ := aK (kBe (g := gb319) (o := .cells #[.int .i64 a0_0, .string a0_1, .string a0_2, .int .i64 a0_3, .int .i64 a0_4] 23 (0, 0)) (by (with_reducible repeat (first | refine kDN ?_ _ | refine kDr ?_ | refine kAl ?_ _)); exact BK319.out) hb); have n1_ := aK (bSp (by repeat (first | (with_reducible first | exact HB.out | apply bAl | apply pbD | apply bD1 | refine bSt ?_ GE319.out) | exact HB.out)) hb); clear BK319; clear HB; have BK319 := n0_; have HB := n1_; clear n0_ n1_; (try clear hb); (try clear hb2); (try clear hk); (try clear hi); have hcz18_0 : w17.cell? ⟨gb319, 0, none⟩ = some (.int .i64 a0_0) := (kCe BK319.out 0).trans rfl; have hcz18_1 : w17.cell? ⟨gb319, 1, none⟩ = some (.string a0_1) := (kCe BK319.out 1).trans rfl; have hcz18_2 : w17.cell? ⟨gb319, 2, none⟩ = some (.string a0_2) := (kCe BK319.out 2).trans rfl; have hcz18_3 : w17.cell? ⟨gb319, 3, none⟩ = some (.int .i64 a0_3) := (kCe BK319.out 3).trans rfl; have hcz18_4 : w17.cell? ⟨gb319, 4, none⟩ = some (.int .i64 a0_4) := (kCe BK319.out 4).trans rfl))
       go_ret
       exact ⟨by first | rfl | (simp [eWn, eWs] <;> rfl) | (simp [*, eWn, eWs] <;> rfl), by repeat (first | (with_reducible first | exact HB.out | apply bAl | apply pbD | apply bD1 | refine bSt ?_ GE319.out) | exact HB.out)⟩
      ·
       rw [if_neg c15] at H
       have c15b0 : decide (0 ≤ a0_3) = false := decide_eq_false c15
       clear c15
       obtain rfl := oI H
       have hcz19_0 : wc.cell? ⟨gb319, 0, none⟩ = some (.int .i64 a0_0) := (kCe BK319.out 0).trans rfl
       have hcz19_1 : wc.cell? ⟨gb319, 1, none⟩ = some (.string a0_1) := (kCe BK319.out 1).trans rfl
       have hcz19_2 : wc.cell? ⟨gb319, 2, none⟩ = some (.string a0_2) := (kCe BK319.out 2).trans rfl
       have hcz19_3 : wc.cell? ⟨gb319, 3, none⟩ = some (.int .i64 a0_3) := (kCe BK319.out 3).trans rfl
       have hcz19_4 : wc.cell? ⟨gb319, 4, none⟩ = some (.int .i64 a0_4) := (kCe BK319.out 4).trans rfl
       go_wp2_with (first | ((with_reducible refine gate_callee (f := 49) rfl ?_); refine goesL_ (some 24) rfl rfl Try.func49 (by kernel_rfl) rfl #[.string a0_2] rfl (by (try simp only [qM0, qM1, qM2]); first | done | rfl | (simp only [qD0, qD1]; rfl)) ?_; (with_reducible refine (r2_Print.calls kj1 a0_2 t321 t322 _ A12.out).mono ?_); rintro e w20 ⟨rfl, hb⟩; refine ⟨_, rfl, ?_⟩; have n0_ := aK (kBe (g := gb319) (o := .cells #[.int .i64 a0_0, .string a0_1, .string a0_2, .int .i64 a0_3, .int .i64 a0_4] 23 (0, 0)) (by (with_reducible repeat (first | refine kDN ?_ _ | refine kDr ?_ | refine kAl ?_ _)); exact BK319.out) hb); have n1_ := aK (bSp (by repeat (first | (with_reducible first | exact HB.out | apply bAl | apply pbD | apply bD1 | refine bSt ?_ GE319.out) | exact HB.out)) hb); clear BK319; clear HB; have BK319 := n0_; have HB := n1_; clear n0_ n1_; (try clear hb); (try clear hb2); (try clear hk); (try clear hi); have hcz21_0 : w20.cell? ⟨gb319, 0, none⟩ = some (.int .i64 a0_0) := (kCe BK319.out 0).trans rfl; have hcz21_1 : w20.cell? ⟨gb319, 1, none⟩ = some (.string a0_1) := (kCe BK319.out 1).trans rfl; have hcz21_2 : w20.cell? ⟨gb319, 2, none⟩ = some (.string a0_2) := (kCe BK319.out 2).trans rfl; have hcz21_3 : w20.cell? ⟨gb319, 3, none⟩ = some (.int .i64 a0_3) := (kCe BK319.out 3).trans rfl; have hcz21_4 : w20.cell? ⟨gb319, 4, none⟩ = some (.int .i64 a0_4) := (kCe BK319.out 4).trans rfl))
       go_ret
       exact ⟨by first | rfl | (simp [eWn, eWs] <;> rfl) | (simp [*, eWn, eWs] <;> rfl), by repeat (first | (with_reducible first | exact HB.out | apply bAl | apply pbD | apply bD1 | refine bSt ?_ GE319.out) | exact HB.out)⟩
     ·
      rw [if_neg c14] at H
      have c14b0 : decide (a0_0 ≤ 5) = false := decide_eq_false c14
      clear c14
      obtain rfl := oI H
      have hcz22_0 : wc.cell? ⟨gb319, 0, none⟩ = some (.int .i64 a0_0) := (kCe BK319.out 0).trans rfl
      have hcz22_1 : wc.cell? ⟨gb319, 1, none⟩ = some (.string a0_1) := (kCe BK319.out 1).trans rfl
      have hcz22_2 : wc.cell? ⟨gb319, 2, none⟩ = some (.string a0_2) := (kCe BK319.out 2).trans rfl
      have hcz22_3 : wc.cell? ⟨gb319, 3, none⟩ = some (.int .i64 a0_3) := (kCe BK319.out 3).trans rfl
      have hcz22_4 : wc.cell? ⟨gb319, 4, none⟩ = some (.int .i64 a0_4) := (kCe BK319.out 4).trans rfl
      go_wp2_with (first | ((with_reducible refine gate_callee (f := 49) rfl ?_); refine goesL_ (some 24) rfl rfl Try.func49 (by kernel_rfl) rfl #[.string a0_2] rfl (by (try simp only [qM0, qM1, qM2]); first | done | rfl | (simp only [qD0, qD1]; rfl)) ?_; (with_reducible refine (r2_Print.calls kj1 a0_2 t321 t322 _ A12.out).mono ?_); rintro e w23 ⟨rfl, hb⟩; refine ⟨_, rfl, ?_⟩; have n0_ := aK (kBe (g := gb319) (o := .cells #[.int .i64 a0_0, .string a0_1, .string a0_2, .int .i64 a0_3, .int .i64 a0_4] 23 (0, 0)) (by (with_reducible repeat (first | refine kDN ?_ _ | refine kDr ?_ | refine kAl ?_ _)); exact BK319.out) hb); have n1_ := aK (bSp (by repeat (first | (with_reducible first | exact HB.out | apply bAl | apply pbD | apply bD1 | refine bSt ?_ GE319.out) | exact HB.out)) hb); clear BK319; clear HB; have BK319 := n0_; have HB := n1_; clear n0_ n1_; (try clear hb); (try clear hb2); (try clear hk); (try clear hi); have hcz24_0 : w23.cell? ⟨gb319, 0, none⟩ = some (.int .i64 a0_0) := (kCe BK319.out 0).trans rfl; have hcz24_1 : w23.cell? ⟨gb319, 1, none⟩ = some (.string a0_1) := (kCe BK319.out 1).trans rfl; have hcz24_2 : w23.cell? ⟨gb319, 2, none⟩ = some (.string a0_2) := (kCe BK319.out 2).trans rfl; have hcz24_3 : w23.cell? ⟨gb319, 3, none⟩ = some (.int .i64 a0_3) := (kCe BK319.out 3).trans rfl; have hcz24_4 : w23.cell? ⟨gb319, 4, none⟩ = some (.int .i64 a0_4) := (kCe BK319.out 4).trans rfl))
      go_ret
      exact ⟨by first | rfl | (simp [eWn, eWs] <;> rfl) | (simp [*, eWn, eWs] <;> rfl), by repeat (first | (with_reducible first | exact HB.out | apply bAl | apply pbD | apply bD1 | refine bSt ?_ GE319.out) | exact HB.out)⟩
    ·
     rw [if_neg c13] at H
     have c13b0 : (t322 == 0) = false := beq_eq_false_iff_ne.mpr c13
     have c13b1 : (t322 != 0) = true := bne_iff_ne.mpr c13
     obtain rfl := oI H
     have hcz25_0 : wc.cell? ⟨gb319, 0, none⟩ = some (.int .i64 a0_0) := (kCe BK319.out 0).trans rfl
     have hcz25_1 : wc.cell? ⟨gb319, 1, none⟩ = some (.string a0_1) := (kCe BK319.out 1).trans rfl
     have hcz25_2 : wc.cell? ⟨gb319, 2, none⟩ = some (.string a0_2) := (kCe BK319.out 2).trans rfl
     have hcz25_3 : wc.cell? ⟨gb319, 3, none⟩ = some (.int .i64 a0_3) := (kCe BK319.out 3).trans rfl
     have hcz25_4 : wc.cell? ⟨gb319, 4, none⟩ = some (.int .i64 a0_4) := (kCe BK319.out 4).trans rfl
     go_wp2_with (first | ((with_reducible refine gate_callee (f := 49) rfl ?_); refine goesL_ (some 24) rfl rfl Try.func49 (by kernel_rfl) rfl #[.string a0_2] rfl (by (try simp only [qM0, qM1, qM2]); first | done | rfl | (simp only [qD0, qD1]; rfl)) ?_; (with_reducible refine (r2_Print.calls kj1 a0_2 t321 t322 _ A12.out).mono ?_); rintro e w26 ⟨rfl, hb⟩; refine ⟨_, rfl, ?_⟩; have n0_ := aK (kBe (g := gb319) (o := .cells #[.int .i64 a0_0, .string a0_1, .string a0_2, .int .i64 a0_3, .int .i64 a0_4] 23 (0, 0)) (by (with_reducible repeat (first | refine kDN ?_ _ | refine kDr ?_ | refine kAl ?_ _)); exact BK319.out) hb); have n1_ := aK (bSp (by repeat (first | (with_reducible first | exact HB.out | apply bAl | apply pbD | apply bD1 | refine bSt ?_ GE319.out) | exact HB.out)) hb); clear BK319; clear HB; have BK319 := n0_; have HB := n1_; clear n0_ n1_; (try clear hb); (try clear hb2); (try clear hk); (try clear hi)))
     go_ret
     exact ⟨by first | rfl | (simp [eWn, eWs] <;> rfl) | (simp [*, eWn, eWs] <;> rfl), by repeat (first | (with_reducible first | exact HB.out | apply bAl | apply pbD | apply bD1 | refine bSt ?_ GE319.out) | exact HB.out)⟩
end Go.Proofs.Ytgjkjoocnkdckaa.PChk
