-- Written by a program of this session (prt.py), out of the translation. Lean checks it.
import Derived.Test.YtgjkjoocnkdckaaGreatDoorZPChk0
import Derived.Test.YtgjkjoocnkdckaaGreatDoorZPChk6
import Derived.Test.YtgjkjoocnkdckaaGreatDoorZPChk14
namespace Go.Proofs.YtgjkjoocnkdckaaGreatDoor.PChk
open Go.RowKit Go.Proofs.YtgjkjoocnkdckaaGreatDoor.G Go.Proofs.YtgjkjoocnkdckaaGreatDoorW.PrintWords Go.Proofs.YtgjkjoocnkdckaaGreatDoorW.PrintLast Go.Proofs.YtgjkjoocnkdckaaGreatDoorW.PrintMore
attribute [local go_sem] max2_int min2_int max_two min_two max_three min_three max_four min_four   -- for this text's walks alone
set_option linter.unusedVariables false
set_option linter.unusedSimpArgs false
def r8_May.j0 : Nat → Bool → Int → ByteArray → ByteArray → Int → Int → Option (Bool)
 | 0, _, _, _, _, _, _ => none
 | k + 1, x20, x338000, x338001, x338002, x338003, x338004 => if x20 = true then (some false) else ((r2_Print.f k x338002).bind fun bt339 => (if bt339.2 = 0 then (if x338000 ≤ 5 then (if x338003 ≥ 0 then (some (decide (x338003 ≤ 99))) else (some false)) else (some (x338003 == 0))) else (some false)))
def r8_May.f (k : Nat) (a0_0 : Int) (a0_1 : ByteArray) (a0_2 : ByteArray) (a0_3 : Int) (a0_4 : Int) : Option (Bool) := if a0_0 < 1 then (r8_May.j0 k true a0_0 a0_1 a0_2 a0_3 a0_4) else (if a0_0 > 8 then (r8_May.j0 k true a0_0 a0_1 a0_2 a0_3 a0_4) else ((r8_left.f k a0_0 a0_1).bind fun t338 => (r8_May.j0 k (!t338) a0_0 a0_1 a0_2 a0_3 a0_4)))
theorem r8_May.mono_l : ∀ k, (∀ y0 y1 y2 y3 y4 y5, LeO (r8_May.j0 k y0 y1 y2 y3 y4 y5) (r8_May.j0 (k + 1) y0 y1 y2 y3 y4 y5))
 | 0 => fun _ _ _ _ _ _ r h => by simp [r8_May.j0] at h
 | k + 1 => by
  have ih0 := r8_May.mono_l k
  ·
   intro y0 y1 y2 y3 y4 y5
   unfold r8_May.j0
   repeat' first
   | (with_reducible exact ih0 _ _ _ _ _ _)
   | (with_reducible exact r2_Print.mono _ _)
   | (with_reducible exact r8_left.mono _ _ _)
   | (with_reducible exact LeO.refl _)
   | (with_reducible exact LeO.none _)
   | (with_reducible refine LeO.ite ?_ ?_)
   | (with_reducible refine LeO.bind ?_ (fun _ => ?_))
   | exact ih0 _ _ _ _ _ _
   | exact r2_Print.mono _ _
   | exact r8_left.mono _ _ _
   | exact LeO.none _
   | refine LeO.ite ?_ ?_
   | refine LeO.bind ?_ (fun _ => ?_)
theorem r8_May.mono : ∀ a0 a1 a2 a3 a4 k, LeO (r8_May.f k a0 a1 a2 a3 a4) (r8_May.f (k + 1) a0 a1 a2 a3 a4) := by
 intro a0 a1 a2 a3 a4 k
 have ih0 := r8_May.mono_l k
 unfold r8_May.f
 repeat' first
   | (with_reducible exact ih0 _ _ _ _ _ _)
   | (with_reducible exact r2_Print.mono _ _)
   | (with_reducible exact r8_left.mono _ _ _)
   | (with_reducible exact LeO.refl _)
   | (with_reducible exact LeO.none _)
   | (with_reducible refine LeO.ite ?_ ?_)
   | (with_reducible refine LeO.bind ?_ (fun _ => ?_))
   | exact ih0 _ _ _ _ _ _
   | exact r2_Print.mono _ _
   | exact r8_left.mono _ _ _
   | exact LeO.none _
   | refine LeO.ite ?_ ?_
   | refine LeO.bind ?_ (fun _ => ?_)
set_option maxHeartbeats 8000000 in
set_option maxRecDepth 100000 in
theorem r8_May.calls (k : Nat) (a0_0 : Int) (a0_1 : ByteArray) (a0_2 : ByteArray) (a0_3 : Int) (a0_4 : Int) (r : Bool) (w : World) (h : r8_May.f k a0_0 a0_1 a0_2 a0_3 a0_4 = some r) :
  Calls Tryz.prog 30 #[.agg #[.int .i64 a0_0, .string a0_1, .string a0_2, .int .i64 a0_3, .int .i64 a0_4]] w fun e w' => e = .returned (.bool r) ∧ Below w.heap.size w w' := by
 have hu47 := Tryz.underlying47
 have HB := aK (Below.refl w.heap.size w)
 have H : (if a0_0 < 1 then (r8_May.j0 k true a0_0 a0_1 a0_2 a0_3 a0_4) else (if a0_0 > 8 then (r8_May.j0 k true a0_0 a0_1 a0_2 a0_3 a0_4) else ((r8_left.f k a0_0 a0_1).bind fun t338 => (r8_May.j0 k (!t338) a0_0 a0_1 a0_2 a0_3 a0_4)))) = some r := h
 clear h
 have HC2 := aK H
 clear H
 go_enter Tryz.func30, Tryz.ntmps30
 go_upto_region 1 with (first | ((with_reducible refine gate_dst (N := 1) rfl ?_); refine box_event ?hg (N := 1) ?hd (cs := #[.int .i64 a0_0, .string a0_1, .string a0_2, .int .i64 a0_3, .int .i64 a0_4]) (t := 47) ?hr ?_; (case hd => rfl); (case hg => rfl); (case hr => first | (go_simp; done) | (go_simp; rfl)); intro gb337 hg w3 hbox hb; have n0_ := aK (bSp (by repeat (first | (with_reducible first | exact HB.out | apply bAl | apply pbD | apply bD1) | exact HB.out)) hb); have n1_ := aK (hbox); have n2_ := aK ((by rw [hg]; exact (bSz (by repeat (first | (with_reducible first | exact HB.out | apply bAl | apply pbD | apply bD1) | exact HB.out))) : w.heap.size ≤ gb337)); have n3_ := aK ((by rw [hg]; exact (bSz (by repeat (first | (with_reducible first | exact HB.out | apply bAl | apply pbD | apply bD1) | exact HB.out))) : w.heap.size ≤ gb337)); clear HB; have HB := n0_; have BK337 := n1_; have GW337 := n2_; have GE337 := n3_; clear n0_ n1_ n2_ n3_; clear hb hbox hg))
 (try simp only [Act.put, qSa, qS0, qS1])
 go_cut [20] (fun v20 wc => ∃ (kq : Nat) (x20_1 : Bool), v20 = .bool x20_1 ∧ Aside0 (r8_May.j0 kq x20_1 a0_0 a0_1 a0_2 a0_3 a0_4 = some r) ∧ Aside0 (kq ≤ k) ∧ Aside0 (wc.heap[gb337]? = some (.cells #[.int .i64 a0_0, .string a0_1, .string a0_2, .int .i64 a0_3, .int .i64 a0_4] 47 (0, 0))) ∧ Aside0 (Below w.heap.size w wc))
 case first =>
  have H := HC2.out
  clear HC2
  by_cases c4 : a0_0 < 1
  ·
   rw [if_pos c4] at H
   have c4b0 : decide (a0_0 < 1) = true := decide_eq_true c4
   clear c4
   (first | rw [c4b0] | (simp only [i64_w, i32_w]; rw [c4b0]) | skip)
   have H' := aK H
   clear H
   have hcz5_0 : w3.cell? ⟨gb337, 0, none⟩ = some (.int .i64 a0_0) := (kCe BK337.out 0).trans rfl
   have hcz5_1 : w3.cell? ⟨gb337, 1, none⟩ = some (.string a0_1) := (kCe BK337.out 1).trans rfl
   have hcz5_2 : w3.cell? ⟨gb337, 2, none⟩ = some (.string a0_2) := (kCe BK337.out 2).trans rfl
   have hcz5_3 : w3.cell? ⟨gb337, 3, none⟩ = some (.int .i64 a0_3) := (kCe BK337.out 3).trans rfl
   have hcz5_4 : w3.cell? ⟨gb337, 4, none⟩ = some (.int .i64 a0_4) := (kCe BK337.out 4).trans rfl
   go_wp2
   go_meet
   case rel => exact ⟨_, (true), (by first | rfl | (simp; done) | (simp [*]; done)), H', ⟨by first | omega | exact Nat.le_refl _⟩, ⟨by (with_reducible repeat (first | refine kDN ?_ _ | refine kDr ?_ | refine kAl ?_ _)); exact BK337.out⟩, ⟨by repeat (first | (with_reducible first | exact HB.out | apply bAl | apply pbD | apply bD1 | refine bSt ?_ GE337.out) | exact HB.out)⟩⟩
  ·
   rw [if_neg c4] at H
   have c4b0 : decide (a0_0 < 1) = false := decide_eq_false c4
   clear c4
   (first | rw [c4b0] | (simp only [i64_w, i32_w]; rw [c4b0]) | skip)
   by_cases c6 : a0_0 > 8
   ·
    rw [if_pos c6] at H
    have c6b0 : decide (8 < a0_0) = true := decide_eq_true c6
    clear c6
    have H' := aK H
    clear H
    have hcz7_0 : w3.cell? ⟨gb337, 0, none⟩ = some (.int .i64 a0_0) := (kCe BK337.out 0).trans rfl
    have hcz7_1 : w3.cell? ⟨gb337, 1, none⟩ = some (.string a0_1) := (kCe BK337.out 1).trans rfl
    have hcz7_2 : w3.cell? ⟨gb337, 2, none⟩ = some (.string a0_2) := (kCe BK337.out 2).trans rfl
    have hcz7_3 : w3.cell? ⟨gb337, 3, none⟩ = some (.int .i64 a0_3) := (kCe BK337.out 3).trans rfl
    have hcz7_4 : w3.cell? ⟨gb337, 4, none⟩ = some (.int .i64 a0_4) := (kCe BK337.out 4).trans rfl
    go_wp2
    go_meet
    case rel => exact ⟨_, (true), (by first | rfl | (simp; done) | (simp [*]; done)), H', ⟨by first | omega | exact Nat.le_refl _⟩, ⟨by (with_reducible repeat (first | refine kDN ?_ _ | refine kDr ?_ | refine kAl ?_ _)); exact BK337.out⟩, ⟨by repeat (first | (with_reducible first | exact HB.out | apply bAl | apply pbD | apply bD1 | refine bSt ?_ GE337.out) | exact HB.out)⟩⟩
   ·
    rw [if_neg c6] at H
    have c6b0 : decide (8 < a0_0) = false := decide_eq_false c6
    clear c6
    replace H := oB H
    obtain ⟨t338, A80, H⟩ := H
    try dsimp only at H
    have A8 := aK A80
    clear A80
    have H' := aK H
    clear H
    have hcz9_0 : w3.cell? ⟨gb337, 0, none⟩ = some (.int .i64 a0_0) := (kCe BK337.out 0).trans rfl
    have hcz9_1 : w3.cell? ⟨gb337, 1, none⟩ = some (.string a0_1) := (kCe BK337.out 1).trans rfl
    have hcz9_2 : w3.cell? ⟨gb337, 2, none⟩ = some (.string a0_2) := (kCe BK337.out 2).trans rfl
    have hcz9_3 : w3.cell? ⟨gb337, 3, none⟩ = some (.int .i64 a0_3) := (kCe BK337.out 3).trans rfl
    have hcz9_4 : w3.cell? ⟨gb337, 4, none⟩ = some (.int .i64 a0_4) := (kCe BK337.out 4).trans rfl
    go_wp2_with (first | (go_at_call 57; (with_reducible refine (r8_left.calls k a0_0 a0_1 t338 _ A8.out).mono ?_); rintro e w10 ⟨rfl, hb⟩; have n0_ := aK (kBe (g := gb337) (o := .cells #[.int .i64 a0_0, .string a0_1, .string a0_2, .int .i64 a0_3, .int .i64 a0_4] 47 (0, 0)) (by (with_reducible repeat (first | refine kDN ?_ _ | refine kDr ?_ | refine kAl ?_ _)); exact BK337.out) hb); have n1_ := aK (bSp (by repeat (first | (with_reducible first | exact HB.out | apply bAl | apply pbD | apply bD1 | refine bSt ?_ GE337.out) | exact HB.out)) hb); clear BK337; clear HB; have BK337 := n0_; have HB := n1_; clear n0_ n1_; (try clear hb); (try clear hb2); (try clear hk); (try clear hi)))
    go_meet
    case rel => exact ⟨_, (!t338), (by first | rfl | (simp; done) | (simp [*]; done)), H', ⟨by first | omega | exact Nat.le_refl _⟩, ⟨by (with_reducible repeat (first | refine kDN ?_ _ | refine kDr ?_ | refine kAl ?_ _)); exact BK337.out⟩, ⟨by repeat (first | (with_reducible first | exact HB.out | apply bAl | apply pbD | apply bD1 | refine bSt ?_ GE337.out) | exact HB.out)⟩⟩
 case rest =>
  clear HC2
  try clear p2
  try clear c3
  try clear c4
  try clear c4b0
  try clear c6
  try clear c6b0
  try clear hcz5_0
  try clear hcz5_1
  try clear hcz5_2
  try clear hcz5_3
  try clear hcz5_4
  try clear hcz7_0
  try clear hcz7_1
  try clear hcz7_2
  try clear hcz7_3
  try clear hcz7_4
  try clear hcz9_0
  try clear hcz9_1
  try clear hcz9_2
  try clear hcz9_3
  try clear hcz9_4
  obtain ⟨kq, x20_1, rfl, HA, HJ1, BK337, HB⟩ := hcut
  cases kq with
  | zero => exact absurd HA.out (by simp [r8_May.j0])
  | succ kj1 =>
   have H := HA.out
   clear HA
   simp only [r8_May.j0] at H
   by_cases c11 : x20_1 = true
   ·
    subst c11
    have H1 : (some false) = some r := by rw [if_pos rfl] at H; exact H
    clear H
    have H := H1
    clear H1
    obtain rfl := oI H
    go_wp2
    go_ret
    exact ⟨by first | rfl | (simp [eWn, eWs] <;> rfl) | (simp [*, eWn, eWs] <;> rfl), by repeat (first | (with_reducible first | exact HB.out | apply bAl | apply pbD | apply bD1 | refine bSt ?_ GE337.out) | exact HB.out)⟩
   ·
    replace c11 := Bool.eq_false_iff.mpr c11
    subst c11
    have H1 : ((r2_Print.f kj1 a0_2).bind fun bt339 => (if bt339.2 = 0 then (if a0_0 ≤ 5 then (if a0_3 ≥ 0 then (some (decide (a0_3 ≤ 99))) else (some false)) else (some (a0_3 == 0))) else (some false))) = some r := by rw [if_neg (show ¬ (false = true) by decide)] at H; exact H
    clear H
    have H := H1
    clear H1
    replace H := oB H
    obtain ⟨⟨t339, t340⟩, A120, H⟩ := H
    try dsimp only at H
    have A12 := aK A120
    clear A120
    by_cases c13 : t340 = 0
    ·
     rw [if_pos c13] at H
     have c13b0 : (t340 == 0) = true := beq_iff_eq.mpr c13
     have c13b1 : (t340 != 0) = false := bne_eq_false_iff_eq.mpr c13
     clear c13
     by_cases c14 : a0_0 ≤ 5
     ·
      rw [if_pos c14] at H
      have c14b0 : decide (a0_0 ≤ 5) = true := decide_eq_true c14
      clear c14
      by_cases c15 : a0_3 ≥ 0
      ·
       rw [if_pos c15] at H
       have c15b0 : decide (0 ≤ a0_3) = true := decide_eq_true c15
       clear c15
       obtain rfl := oI H
       have hcz16_0 : wc.cell? ⟨gb337, 0, none⟩ = some (.int .i64 a0_0) := (kCe BK337.out 0).trans rfl
       have hcz16_1 : wc.cell? ⟨gb337, 1, none⟩ = some (.string a0_1) := (kCe BK337.out 1).trans rfl
       have hcz16_2 : wc.cell? ⟨gb337, 2, none⟩ = some (.string a0_2) := (kCe BK337.out 2).trans rfl
       have hcz16_3 : wc.cell? ⟨gb337, 3, none⟩ = some (.int .i64 a0_3) := (kCe BK337.out 3).trans rfl
       have hcz16_4 : wc.cell? ⟨gb337, 4, none⟩ = some (.int .i64 a0_4) := (kCe BK337.out 4).trans rfl
       go_wp2_with (first | ((with_reducible refine gate_callee (f := 53) rfl ?_); refine goesL_ (some 24) rfl rfl Tryz.func53 (by kernel_rfl) rfl #[.string a0_2] rfl (by (try simp only [qM0, qM1, qM2]); first | done | rfl | (simp only [qD0, qD1]; rfl)) ?_; (with_reducible refine (r2_Print.calls kj1 a0_2 t339 t340 _ A12.out).mono ?_); rintro e w17 ⟨rfl, hb⟩; refine ⟨_, rfl, ?_⟩; have n0_ := aK (kBe (g := gb337) (o := .cells #[.int .i64 a0_0, .string a0_1, .string a0_2, .int .i64 a0_3, .int .i64 a0_4] 47 (0, 0)) (by (with_reducible repeat (first | refine kDN ?_ _ | refine kDr ?_ | refine kAl ?_ _)); exact BK337.out) hb); have n1_ := aK (bSp (by repeat (first | (with_reducible first | exact HB.out | apply bAl | apply pbD | apply bD1 | refine bSt ?_ GE337.out) | exact HB.out)) hb); clear BK337; clear HB; have BK337 := n0_; have HB := n1_; clear n0_ n1_; (try clear hb); (try clear hb2); (try clear hk); (try clear hi); have hcz18_0 : w17.cell? ⟨gb337, 0, none⟩ = some (.int .i64 a0_0) := (kCe BK337.out 0).trans rfl; have hcz18_1 : w17.cell? ⟨gb337, 1, none⟩ = some (.string a0_1) := (kCe BK337.out 1).trans rfl; have hcz18_2 : w17.cell? ⟨gb337, 2, none⟩ = some (.string a0_2) := (kCe BK337.out 2).trans rfl; have hcz18_3 : w17.cell? ⟨gb337, 3, none⟩ = some (.int .i64 a0_3) := (kCe BK337.out 3).trans rfl; have hcz18_4 : w17.cell? ⟨gb337, 4, none⟩ = some (.int .i64 a0_4) := (kCe BK337.out 4).trans rfl))
       go_ret
       exact ⟨by first | rfl | (simp [eWn, eWs] <;> rfl) | (simp [*, eWn, eWs] <;> rfl), by repeat (first | (with_reducible first | exact HB.out | apply bAl | apply pbD | apply bD1 | refine bSt ?_ GE337.out) | exact HB.out)⟩
      ·
       rw [if_neg c15] at H
       have c15b0 : decide (0 ≤ a0_3) = false := decide_eq_false c15
       clear c15
       obtain rfl := oI H
       have hcz19_0 : wc.cell? ⟨gb337, 0, none⟩ = some (.int .i64 a0_0) := (kCe BK337.out 0).trans rfl
       have hcz19_1 : wc.cell? ⟨gb337, 1, none⟩ = some (.string a0_1) := (kCe BK337.out 1).trans rfl
       have hcz19_2 : wc.cell? ⟨gb337, 2, none⟩ = some (.string a0_2) := (kCe BK337.out 2).trans rfl
       have hcz19_3 : wc.cell? ⟨gb337, 3, none⟩ = some (.int .i64 a0_3) := (kCe BK337.out 3).trans rfl
       have hcz19_4 : wc.cell? ⟨gb337, 4, none⟩ = some (.int .i64 a0_4) := (kCe BK337.out 4).trans rfl
       go_wp2_with (first | ((with_reducible refine gate_callee (f := 53) rfl ?_); refine goesL_ (some 24) rfl rfl Tryz.func53 (by kernel_rfl) rfl #[.string a0_2] rfl (by (try simp only [qM0, qM1, qM2]); first | done | rfl | (simp only [qD0, qD1]; rfl)) ?_; (with_reducible refine (r2_Print.calls kj1 a0_2 t339 t340 _ A12.out).mono ?_); rintro e w20 ⟨rfl, hb⟩; refine ⟨_, rfl, ?_⟩; have n0_ := aK (kBe (g := gb337) (o := .cells #[.int .i64 a0_0, .string a0_1, .string a0_2, .int .i64 a0_3, .int .i64 a0_4] 47 (0, 0)) (by (with_reducible repeat (first | refine kDN ?_ _ | refine kDr ?_ | refine kAl ?_ _)); exact BK337.out) hb); have n1_ := aK (bSp (by repeat (first | (with_reducible first | exact HB.out | apply bAl | apply pbD | apply bD1 | refine bSt ?_ GE337.out) | exact HB.out)) hb); clear BK337; clear HB; have BK337 := n0_; have HB := n1_; clear n0_ n1_; (try clear hb); (try clear hb2); (try clear hk); (try clear hi); have hcz21_0 : w20.cell? ⟨gb337, 0, none⟩ = some (.int .i64 a0_0) := (kCe BK337.out 0).trans rfl; have hcz21_1 : w20.cell? ⟨gb337, 1, none⟩ = some (.string a0_1) := (kCe BK337.out 1).trans rfl; have hcz21_2 : w20.cell? ⟨gb337, 2, none⟩ = some (.string a0_2) := (kCe BK337.out 2).trans rfl; have hcz21_3 : w20.cell? ⟨gb337, 3, none⟩ = some (.int .i64 a0_3) := (kCe BK337.out 3).trans rfl; have hcz21_4 : w20.cell? ⟨gb337, 4, none⟩ = some (.int .i64 a0_4) := (kCe BK337.out 4).trans rfl))
       go_ret
       exact ⟨by first | rfl | (simp [eWn, eWs] <;> rfl) | (simp [*, eWn, eWs] <;> rfl), by repeat (first | (with_reducible first | exact HB.out | apply bAl | apply pbD | apply bD1 | refine bSt ?_ GE337.out) | exact HB.out)⟩
     ·
      rw [if_neg c14] at H
      have c14b0 : decide (a0_0 ≤ 5) = false := decide_eq_false c14
      clear c14
      obtain rfl := oI H
      have hcz22_0 : wc.cell? ⟨gb337, 0, none⟩ = some (.int .i64 a0_0) := (kCe BK337.out 0).trans rfl
      have hcz22_1 : wc.cell? ⟨gb337, 1, none⟩ = some (.string a0_1) := (kCe BK337.out 1).trans rfl
      have hcz22_2 : wc.cell? ⟨gb337, 2, none⟩ = some (.string a0_2) := (kCe BK337.out 2).trans rfl
      have hcz22_3 : wc.cell? ⟨gb337, 3, none⟩ = some (.int .i64 a0_3) := (kCe BK337.out 3).trans rfl
      have hcz22_4 : wc.cell? ⟨gb337, 4, none⟩ = some (.int .i64 a0_4) := (kCe BK337.out 4).trans rfl
      go_wp2_with (first | ((with_reducible refine gate_callee (f := 53) rfl ?_); refine goesL_ (some 24) rfl rfl Tryz.func53 (by kernel_rfl) rfl #[.string a0_2] rfl (by (try simp only [qM0, qM1, qM2]); first | done | rfl | (simp only [qD0, qD1]; rfl)) ?_; (with_reducible refine (r2_Print.calls kj1 a0_2 t339 t340 _ A12.out).mono ?_); rintro e w23 ⟨rfl, hb⟩; refine ⟨_, rfl, ?_⟩; have n0_ := aK (kBe (g := gb337) (o := .cells #[.int .i64 a0_0, .string a0_1, .string a0_2, .int .i64 a0_3, .int .i64 a0_4] 47 (0, 0)) (by (with_reducible repeat (first | refine kDN ?_ _ | refine kDr ?_ | refine kAl ?_ _)); exact BK337.out) hb); have n1_ := aK (bSp (by repeat (first | (with_reducible first | exact HB.out | apply bAl | apply pbD | apply bD1 | refine bSt ?_ GE337.out) | exact HB.out)) hb); clear BK337; clear HB; have BK337 := n0_; have HB := n1_; clear n0_ n1_; (try clear hb); (try clear hb2); (try clear hk); (try clear hi); have hcz24_0 : w23.cell? ⟨gb337, 0, none⟩ = some (.int .i64 a0_0) := (kCe BK337.out 0).trans rfl; have hcz24_1 : w23.cell? ⟨gb337, 1, none⟩ = some (.string a0_1) := (kCe BK337.out 1).trans rfl; have hcz24_2 : w23.cell? ⟨gb337, 2, none⟩ = some (.string a0_2) := (kCe BK337.out 2).trans rfl; have hcz24_3 : w23.cell? ⟨gb337, 3, none⟩ = some (.int .i64 a0_3) := (kCe BK337.out 3).trans rfl; have hcz24_4 : w23.cell? ⟨gb337, 4, none⟩ = some (.int .i64 a0_4) := (kCe BK337.out 4).trans rfl))
      go_ret
      exact ⟨by first | rfl | (simp [eWn, eWs] <;> rfl) | (simp [*, eWn, eWs] <;> rfl), by repeat (first | (with_reducible first | exact HB.out | apply bAl | apply pbD | apply bD1 | refine bSt ?_ GE337.out) | exact HB.out)⟩
    ·
     rw [if_neg c13] at H
     have c13b0 : (t340 == 0) = false := beq_eq_false_iff_ne.mpr c13
     have c13b1 : (t340 != 0) = true := bne_iff_ne.mpr c13
     obtain rfl := oI H
     have hcz25_0 : wc.cell? ⟨gb337, 0, none⟩ = some (.int .i64 a0_0) := (kCe BK337.out 0).trans rfl
     have hcz25_1 : wc.cell? ⟨gb337, 1, none⟩ = some (.string a0_1) := (kCe BK337.out 1).trans rfl
     have hcz25_2 : wc.cell? ⟨gb337, 2, none⟩ = some (.string a0_2) := (kCe BK337.out 2).trans rfl
     have hcz25_3 : wc.cell? ⟨gb337, 3, none⟩ = some (.int .i64 a0_3) := (kCe BK337.out 3).trans rfl
     have hcz25_4 : wc.cell? ⟨gb337, 4, none⟩ = some (.int .i64 a0_4) := (kCe BK337.out 4).trans rfl
     go_wp2_with (first | ((with_reducible refine gate_callee (f := 53) rfl ?_); refine goesL_ (some 24) rfl rfl Tryz.func53 (by kernel_rfl) rfl #[.string a0_2] rfl (by (try simp only [qM0, qM1, qM2]); first | done | rfl | (simp only [qD0, qD1]; rfl)) ?_; (with_reducible refine (r2_Print.calls kj1 a0_2 t339 t340 _ A12.out).mono ?_); rintro e w26 ⟨rfl, hb⟩; refine ⟨_, rfl, ?_⟩; have n0_ := aK (kBe (g := gb337) (o := .cells #[.int .i64 a0_0, .string a0_1, .string a0_2, .int .i64 a0_3, .int .i64 a0_4] 47 (0, 0)) (by (with_reducible repeat (first | refine kDN ?_ _ | refine kDr ?_ | refine kAl ?_ _)); exact BK337.out) hb); have n1_ := aK (bSp (by repeat (first | (with_reducible first | exact HB.out | apply bAl | apply pbD | apply bD1 | refine bSt ?_ GE337.out) | exact HB.out)) hb); clear BK337; clear HB; have BK337 := n0_; have HB := n1_; clear n0_ n1_; (try clear hb); (try clear hb2); (try clear hk); (try clear hi)))
     go_ret
     exact ⟨by first | rfl | (simp [eWn, eWs] <;> rfl) | (simp [*, eWn, eWs] <;> rfl), by repeat (first | (with_reducible first | exact HB.out | apply bAl | apply pbD | apply bD1 | refine bSt ?_ GE337.out) | exact HB.out)⟩
end Go.Proofs.YtgjkjoocnkdckaaGreatDoor.PChk
