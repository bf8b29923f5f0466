import Derived.Test.YtbpbniemjjhecaaGreatZPChk0
import Derived.Test.YtbpbniemjjhecaaGreatZPChk3
section
namespace Go.Proofs.YtbpbniemjjhecaaGreat.PChk
open Go.RowKit Go.Proofs.YtbpbniemjjhecaaGreat.G Go.Proofs.YtbpbniemjjhecaaGreatW.PrintWords Go.Proofs.YtbpbniemjjhecaaGreatW.PrintLast Go.Proofs.YtbpbniemjjhecaaGreatW.PrintMore
attribute [local go_sem] max2_int min2_int max_two min_two max_three min_three max_four min_four
set_option linter.unusedVariables false
set_option linter.unusedSimpArgs false
set_option maxHeartbeats 8000000
set_option maxRecDepth 100000
def check_most.j0 : Nat → Bool → Int → ByteArray → ByteArray → Int → Int → Option (Int)
 | 0, _, _, _, _, _, _ => none
 | k + 1, x3, x148000, x148001, x148002, x148003, x148004 => if x3 = true then (some 1) else (if x148000 = 8 then (if x148001.toList = ([110, 117, 109] : List UInt8) then (some 2) else (if x148001.toList = ([108, 101, 116] : List UInt8) then (some 2) else (some 4))) else (some 4))
def check_most.f (k : Nat) (a0_0 : Int) (a0_1 : ByteArray) (a0_2 : ByteArray) (a0_3 : Int) (a0_4 : Int) : Option (Int) := (check_kept.f a0_0 a0_1 a0_2 a0_3 a0_4).bind fun t148 => (if t148 = true then (check_most.j0 k true a0_0 a0_1 a0_2 a0_3 a0_4) else (if a0_0 = 7 then (check_most.j0 k true a0_0 a0_1 a0_2 a0_3 a0_4) else (if a0_0 = 1 then (check_most.j0 k ((a0_1.size : Int) == 1) a0_0 a0_1 a0_2 a0_3 a0_4) else (check_most.j0 k false a0_0 a0_1 a0_2 a0_3 a0_4))))
theorem check_most.calls (k : Nat) (a0_0 : Int) (a0_1 : ByteArray) (a0_2 : ByteArray) (a0_3 : Int) (a0_4 : Int) (r : Int) (w : World) (h : check_most.f k a0_0 a0_1 a0_2 a0_3 a0_4 = some r) :
  Calls Tryz.prog 107 #[.agg #[.int .i64 a0_0, .string a0_1, .string a0_2, .int .i64 a0_3, .int .i64 a0_4]] w fun e w' => e = .returned (.int .i64 r) ∧ Below w.heap.size w w' := by
 have hu50 := Tryz.underlying50
 have HB := aK (Below.refl w.heap.size w)
 have H : ((check_kept.f a0_0 a0_1 a0_2 a0_3 a0_4).bind fun t148 => (if t148 = true then (check_most.j0 k true a0_0 a0_1 a0_2 a0_3 a0_4) else (if a0_0 = 7 then (check_most.j0 k true a0_0 a0_1 a0_2 a0_3 a0_4) else (if a0_0 = 1 then (check_most.j0 k ((a0_1.size : Int) == 1) a0_0 a0_1 a0_2 a0_3 a0_4) else (check_most.j0 k false a0_0 a0_1 a0_2 a0_3 a0_4))))) = some r := h
 clear h
 have HC2 := aK H
 clear H
 go_enter Tryz.func107, Tryz.ntmps107
 go_upto_region 1 with (first | ((with_reducible refine gate_dst (N := 1) rfl ?_); (try (refine gate_guard (by rfl) ?_; dsimp only)); refine box_event ?hg (N := 1) ?hd (cs := #[.int .i64 a0_0, .string a0_1, .string a0_2, .int .i64 a0_3, .int .i64 a0_4]) (t := 50) ?hr ?_; (case hd => rfl); (case hg => rfl); (case hr => first | (go_simp; done) | (go_simp; rfl)); intro gb147 hg w3 hbox hb; have n0_ := aK (bSp bX hb); have n1_ := aK (hbox); have n2_ := aK ((by rw [hg]; exact (bSz bX) : w.heap.size ≤ gb147)); have n3_ := aK ((by rw [hg]; exact (bSz bX) : w.heap.size ≤ gb147)); clear HB; have HB := n0_; have BK147 := n1_; have GW147 := n2_; have GE147 := n3_; clear n0_ n1_ n2_ n3_; clear hb hbox hg))
 (try simp only [Act.put, qSa, qS0, qS1])
 go_cut [3] (fun v3 wc => ∃ (kq : Nat) (x3_1 : Bool), v3 = .bool x3_1 ∧ Aside0 (check_most.j0 kq x3_1 a0_0 a0_1 a0_2 a0_3 a0_4 = some r) ∧ Aside0 (kq ≤ k) ∧ Aside0 (wc.heap[gb147]? = some (.cells #[.int .i64 a0_0, .string a0_1, .string a0_2, .int .i64 a0_3, .int .i64 a0_4] 50 (0, 0))) ∧ Aside0 (Below w.heap.size w wc))
 case first =>
  have H := HC2.out; clear HC2; obtain ⟨t148, A4, H⟩ := oC H
  try dsimp only at H
  by_cases c5 : t148 = true
  rotate_left
  ·
   replace c5 := Bool.eq_false_iff.mpr c5; subst c5
   have H1 : (if a0_0 = 7 then (check_most.j0 k true a0_0 a0_1 a0_2 a0_3 a0_4) else (if a0_0 = 1 then (check_most.j0 k ((a0_1.size : Int) == 1) a0_0 a0_1 a0_2 a0_3 a0_4) else (check_most.j0 k false a0_0 a0_1 a0_2 a0_3 a0_4))) = some r := by rw [if_neg (show ¬ (false = true) by decide)] at H; exact H
   clear H
   have H := H1
   clear H1
   by_cases c8 : a0_0 = 7
   rotate_left
   ·
    rw [if_neg c8] at H; obtain ⟨c8b0, c8b1⟩ := bN c8
    (first | rw [c8b0] | (simp only [i64_w, i32_w]; rw [c8b0]) | skip)
    by_cases c12 : a0_0 = 1
    rotate_left
    ·
     rw [if_neg c12] at H; obtain ⟨c12b0, c12b1⟩ := bN c12; have H' := aK H; clear H; obtain ⟨hcz16_0, hcz16_1, hcz16_2, hcz16_3, hcz16_4⟩ := kC5 BK147.out
     go_wp2_with (first | ((with_reducible refine gate_callee (f := 133) rfl ?_); refine gO 5 Tryz.func133 #[.agg #[.int .i64 a0_0, .string a0_1, .string a0_2, .int .i64 a0_3, .int .i64 a0_4]] ?_; (with_reducible refine (check_kept.calls a0_0 a0_1 a0_2 a0_3 a0_4 false _ A4.out).mono ?_); rintro e w17 ⟨rfl, hb⟩; refine ⟨_, rfl, ?_⟩; replace BK147 := aK (kBe (g := gb147) (o := .cells #[.int .i64 a0_0, .string a0_1, .string a0_2, .int .i64 a0_3, .int .i64 a0_4] 50 (0, 0)) (kX BK147.out) hb); replace HB := aK (bSp (bX1 GE147.out) hb); clear hb; have hcz18_0 : w17.cell? ⟨gb147, 0, none⟩ = some (.int .i64 a0_0) := (kCe BK147.out 0).trans rfl; have hcz18_1 : w17.cell? ⟨gb147, 1, none⟩ = some (.string a0_1) := (kCe BK147.out 1).trans rfl; have hcz18_2 : w17.cell? ⟨gb147, 2, none⟩ = some (.string a0_2) := (kCe BK147.out 2).trans rfl; have hcz18_3 : w17.cell? ⟨gb147, 3, none⟩ = some (.int .i64 a0_3) := (kCe BK147.out 3).trans rfl; have hcz18_4 : w17.cell? ⟨gb147, 4, none⟩ = some (.int .i64 a0_4) := (kCe BK147.out 4).trans rfl))
     go_meet
     case rel => exact ⟨_, (false), sX, H', ⟨by first | omega | exact Nat.le_refl _⟩, ⟨kX BK147.out⟩, ⟨bX1 GE147.out⟩⟩
    rw [if_pos c12] at H; obtain ⟨c12b0, c12b1⟩ := bY c12; clear c12; have H' := aK H; clear H; obtain ⟨hcz13_0, hcz13_1, hcz13_2, hcz13_3, hcz13_4⟩ := kC5 BK147.out
    go_wp2_with (first | ((with_reducible refine gate_callee (f := 133) rfl ?_); refine gO 5 Tryz.func133 #[.agg #[.int .i64 a0_0, .string a0_1, .string a0_2, .int .i64 a0_3, .int .i64 a0_4]] ?_; (with_reducible refine (check_kept.calls a0_0 a0_1 a0_2 a0_3 a0_4 false _ A4.out).mono ?_); rintro e w14 ⟨rfl, hb⟩; refine ⟨_, rfl, ?_⟩; replace BK147 := aK (kBe (g := gb147) (o := .cells #[.int .i64 a0_0, .string a0_1, .string a0_2, .int .i64 a0_3, .int .i64 a0_4] 50 (0, 0)) (kX BK147.out) hb); replace HB := aK (bSp (bX1 GE147.out) hb); clear hb; have hcz15_0 : w14.cell? ⟨gb147, 0, none⟩ = some (.int .i64 a0_0) := (kCe BK147.out 0).trans rfl; have hcz15_1 : w14.cell? ⟨gb147, 1, none⟩ = some (.string a0_1) := (kCe BK147.out 1).trans rfl; have hcz15_2 : w14.cell? ⟨gb147, 2, none⟩ = some (.string a0_2) := (kCe BK147.out 2).trans rfl; have hcz15_3 : w14.cell? ⟨gb147, 3, none⟩ = some (.int .i64 a0_3) := (kCe BK147.out 3).trans rfl; have hcz15_4 : w14.cell? ⟨gb147, 4, none⟩ = some (.int .i64 a0_4) := (kCe BK147.out 4).trans rfl))
    go_meet
    case rel => exact ⟨_, (((a0_1.size : Int) == 1)), sX, H', ⟨by first | omega | exact Nat.le_refl _⟩, ⟨kX BK147.out⟩, ⟨bX1 GE147.out⟩⟩
   rw [if_pos c8] at H; obtain ⟨c8b0, c8b1⟩ := bY c8; clear c8
   (first | rw [c8b0] | (simp only [i64_w, i32_w]; rw [c8b0]) | skip)
   have H' := aK H; clear H; obtain ⟨hcz9_0, hcz9_1, hcz9_2, hcz9_3, hcz9_4⟩ := kC5 BK147.out
   go_wp2_with (first | ((with_reducible refine gate_callee (f := 133) rfl ?_); refine gO 5 Tryz.func133 #[.agg #[.int .i64 a0_0, .string a0_1, .string a0_2, .int .i64 a0_3, .int .i64 a0_4]] ?_; (with_reducible refine (check_kept.calls a0_0 a0_1 a0_2 a0_3 a0_4 false _ A4.out).mono ?_); rintro e w10 ⟨rfl, hb⟩; refine ⟨_, rfl, ?_⟩; replace BK147 := aK (kBe (g := gb147) (o := .cells #[.int .i64 a0_0, .string a0_1, .string a0_2, .int .i64 a0_3, .int .i64 a0_4] 50 (0, 0)) (kX BK147.out) hb); replace HB := aK (bSp (bX1 GE147.out) hb); clear hb; have hcz11_0 : w10.cell? ⟨gb147, 0, none⟩ = some (.int .i64 a0_0) := (kCe BK147.out 0).trans rfl; have hcz11_1 : w10.cell? ⟨gb147, 1, none⟩ = some (.string a0_1) := (kCe BK147.out 1).trans rfl; have hcz11_2 : w10.cell? ⟨gb147, 2, none⟩ = some (.string a0_2) := (kCe BK147.out 2).trans rfl; have hcz11_3 : w10.cell? ⟨gb147, 3, none⟩ = some (.int .i64 a0_3) := (kCe BK147.out 3).trans rfl; have hcz11_4 : w10.cell? ⟨gb147, 4, none⟩ = some (.int .i64 a0_4) := (kCe BK147.out 4).trans rfl))
   go_meet
   case rel => exact ⟨_, (true), sX, H', ⟨by first | omega | exact Nat.le_refl _⟩, ⟨kX BK147.out⟩, ⟨bX1 GE147.out⟩⟩
  subst c5
  have H1 : (check_most.j0 k true a0_0 a0_1 a0_2 a0_3 a0_4) = some r := by rw [if_pos rfl] at H; exact H
  clear H
  have H := H1
  clear H1; have H' := aK H; clear H; obtain ⟨hcz6_0, hcz6_1, hcz6_2, hcz6_3, hcz6_4⟩ := kC5 BK147.out
  go_wp2_with (first | ((with_reducible refine gate_callee (f := 133) rfl ?_); refine gO 5 Tryz.func133 #[.agg #[.int .i64 a0_0, .string a0_1, .string a0_2, .int .i64 a0_3, .int .i64 a0_4]] ?_; (with_reducible refine (check_kept.calls a0_0 a0_1 a0_2 a0_3 a0_4 true _ A4.out).mono ?_); rintro e w7 ⟨rfl, hb⟩; refine ⟨_, rfl, ?_⟩; replace BK147 := aK (kBe (g := gb147) (o := .cells #[.int .i64 a0_0, .string a0_1, .string a0_2, .int .i64 a0_3, .int .i64 a0_4] 50 (0, 0)) (kX BK147.out) hb); replace HB := aK (bSp (bX1 GE147.out) hb); clear hb))
  go_meet
  case rel => exact ⟨_, (true), sX, H', ⟨by first | omega | exact Nat.le_refl _⟩, ⟨kX BK147.out⟩, ⟨bX1 GE147.out⟩⟩
 case rest =>
  clear HC2
  try clear c1
  try clear p2
  try clear c5
  try clear c8
  try clear c8b0
  try clear c8b1
  try clear c10
  try clear c12
  try clear c12b0
  try clear c12b1
  try clear c13
  try clear hcz11_0
  try clear hcz11_1
  try clear hcz11_2
  try clear hcz11_3
  try clear hcz11_4
  try clear hcz13_0
  try clear hcz13_1
  try clear hcz13_2
  try clear hcz13_3
  try clear hcz13_4
  try clear hcz15_0
  try clear hcz15_1
  try clear hcz15_2
  try clear hcz15_3
  try clear hcz15_4
  try clear hcz16_0
  try clear hcz16_1
  try clear hcz16_2
  try clear hcz16_3
  try clear hcz16_4
  try clear hcz18_0
  try clear hcz18_1
  try clear hcz18_2
  try clear hcz18_3
  try clear hcz18_4
  try clear hcz6_0
  try clear hcz6_1
  try clear hcz6_2
  try clear hcz6_3
  try clear hcz6_4
  try clear hcz9_0
  try clear hcz9_1
  try clear hcz9_2
  try clear hcz9_3
  try clear hcz9_4
  obtain ⟨kq, x3_1, rfl, HA, HJ1, BK147, HB⟩ := hcut
  cases kq with
  | zero => exact absurd HA.out (by simp [check_most.j0])
  | succ kj1 =>
   have H := HA.out; clear HA
   simp only [check_most.j0] at H
   by_cases c19 : x3_1 = true
   rotate_left
   ·
    replace c19 := Bool.eq_false_iff.mpr c19; subst c19
    have H1 : (if a0_0 = 8 then (if a0_1.toList = ([110, 117, 109] : List UInt8) then (some 2) else (if a0_1.toList = ([108, 101, 116] : List UInt8) then (some 2) else (some 4))) else (some 4)) = some r := by rw [if_neg (show ¬ (false = true) by decide)] at H; exact H
    clear H
    have H := H1
    clear H1
    by_cases c20 : a0_0 = 8
    rotate_left
    ·
     rw [if_neg c20] at H; obtain ⟨c20b0, c20b1⟩ := bN c20; obtain rfl := oI H; obtain ⟨hcz26_0, hcz26_1, hcz26_2, hcz26_3, hcz26_4⟩ := kC5 BK147.out
     go_wp2
     go_ret
     exact ⟨eX, bX1 GE147.out⟩
    rw [if_pos c20] at H; obtain ⟨c20b0, c20b1⟩ := bY c20; clear c20
    by_cases c21 : a0_1.toList = ([110, 117, 109] : List UInt8)
    rotate_left
    ·
     rw [if_neg c21] at H; obtain ⟨c21b0, c21b1⟩ := bN c21
     by_cases c23 : a0_1.toList = ([108, 101, 116] : List UInt8)
     rotate_left
     ·
      rw [if_neg c23] at H; obtain ⟨c23b0, c23b1⟩ := bN c23; obtain rfl := oI H; obtain ⟨hcz25_0, hcz25_1, hcz25_2, hcz25_3, hcz25_4⟩ := kC5 BK147.out
      go_wp2
      go_ret
      exact ⟨eX, bX1 GE147.out⟩
     rw [if_pos c23] at H; obtain ⟨c23b0, c23b1⟩ := bY c23; clear c23; obtain rfl := oI H; obtain ⟨hcz24_0, hcz24_1, hcz24_2, hcz24_3, hcz24_4⟩ := kC5 BK147.out
     go_wp2
     go_ret
     exact ⟨eX, bX1 GE147.out⟩
    rw [if_pos c21] at H; obtain ⟨c21b0, c21b1⟩ := bY c21; clear c21; obtain rfl := oI H; obtain ⟨hcz22_0, hcz22_1, hcz22_2, hcz22_3, hcz22_4⟩ := kC5 BK147.out
    go_wp2
    go_ret
    exact ⟨eX, bX1 GE147.out⟩
   subst c19
   have H1 : (some 1) = some r := by rw [if_pos rfl] at H; exact H
   clear H
   have H := H1
   clear H1; obtain rfl := oI H
   go_wp2
   go_ret
   exact ⟨eX, bX1 GE147.out⟩
def check_Alone.f (k : Nat) (a0_0 : Int) (a0_1 : ByteArray) (a0_2 : ByteArray) (a0_3 : Int) (a0_4 : Int) : Option (Bool) := (rules_May.f k a0_0 a0_1 a0_2 a0_3 a0_4).bind fun t150 => (if t150 = true then ((check_most.f k a0_0 a0_1 a0_2 a0_3 a0_4).bind fun t151 => (some (decide ((a0_2.size : Int) ≤ t151)))) else (some false))
def check_Alone.T1 : Bool × List (List Nat × List Nat) := (true, [([], []), ([0], [0]), ([1, 1], [1]), ([2], [2]), ([3, 2], [2, 3]), ([4, 2], [2, 4]), ([2], [2]), ([6, 2, 2], [2, 6]), ([5, 7, 2], [2, 5, 7]), ([2, 8], [2, 8]), ([9, 7, 0, 1, 2, 3, 4, 5, 6, 7, 8, 9], [9])])
def check_Alone.B1 : List Nat := [0, 1, 3, 7, 15, 31, 7, 71, 255, 511, 1023]
theorem check_Alone.tab1 : rtab .any (opsOf Tryz.f75 1) = check_Alone.T1 := by kernel_rfl
theorem check_Alone.bits1 : waitsOk check_Alone.T1.2 check_Alone.B1 = true := by kernel_rfl
theorem check_Alone.calls (k : Nat) (a0_0 : Int) (a0_1 : ByteArray) (a0_2 : ByteArray) (a0_3 : Int) (a0_4 : Int) (r : Bool) (w : World) (h : check_Alone.f k a0_0 a0_1 a0_2 a0_3 a0_4 = some r) :
  Calls Tryz.prog 75 #[.agg #[.int .i64 a0_0, .string a0_1, .string a0_2, .int .i64 a0_3, .int .i64 a0_4]] w fun e w' => e = .returned (.bool r) ∧ Below w.heap.size w w' := by
 have hu50 := Tryz.underlying50
 have HB := aK (Below.refl w.heap.size w)
 have H : ((rules_May.f k a0_0 a0_1 a0_2 a0_3 a0_4).bind fun t150 => (if t150 = true then ((check_most.f k a0_0 a0_1 a0_2 a0_3 a0_4).bind fun t151 => (some (decide ((a0_2.size : Int) ≤ t151)))) else (some false))) = some r := h
 clear h
 obtain ⟨t150, A2, H⟩ := oC H
 try dsimp only at H
 by_cases c3 : t150 = true
 rotate_left
 ·
  replace c3 := Bool.eq_false_iff.mpr c3; subst c3
  have H1 : (some false) = some r := by rw [if_neg (show ¬ (false = true) by decide)] at H; exact H
  clear H
  have H := H1
  clear H1; obtain rfl := oI H
  go_enter Tryz.func75, Tryz.ntmps75
  try go_wp2_with (first | ((with_reducible refine gate_dst (N := 1) rfl ?_); (try (refine gate_guard (by rfl) ?_; dsimp only)); refine box_event ?hg (N := 1) ?hd (cs := #[.int .i64 a0_0, .string a0_1, .string a0_2, .int .i64 a0_3, .int .i64 a0_4]) (t := 50) ?hr ?_; (case hd => rfl); (case hg => rfl); (case hr => first | (go_simp; done) | (go_simp; rfl)); intro gb149 hg w9 hbox hb; have n0_ := aK (bSp bX hb); have n1_ := aK (hbox); have n2_ := aK ((by rw [hg]; exact (bSz bX) : w.heap.size ≤ gb149)); have n3_ := aK ((by rw [hg]; exact (bSz bX) : w.heap.size ≤ gb149)); clear HB; have HB := n0_; have BK149 := n1_; have GW149 := n2_; have GE149 := n3_; clear n0_ n1_ n2_ n3_; clear hb hbox hg))
  have n0_ := aK (kDr BK149.out)
  have n1_ := aK (bD1 HB.out)
  clear BK149; clear HB
  have BK149 := n0_
  have HB := n1_
  clear n0_ n1_
  refine start_ (n := 11) (S := fun w' => w'.cell? ⟨gb149, 0, none⟩ = some (.int .i64 a0_0) ∧ w'.cell? ⟨gb149, 1, none⟩ = some (.string a0_1) ∧ w'.cell? ⟨gb149, 2, none⟩ = some (.string a0_2) ∧ w'.cell? ⟨gb149, 3, none⟩ = some (.int .i64 a0_3) ∧ w'.cell? ⟨gb149, 4, none⟩ = some (.int .i64 a0_4)) (ds := []) (bl 11 0) (by kernel_rfl) rfl (by kernel_rfl) ⟨(kCe BK149.out 0).trans rfl, (kCe BK149.out 1).trans rfl, (kCe BK149.out 2).trans rfl, (kCe BK149.out 3).trans rfl, (kCe BK149.out 4).trans rfl⟩ (fun hHeld => ?_); refine with_tabW check_Alone.tab1 check_Alone.bits1 (fun HT_ HW_ => ?_)
  generalize w9.drew = w10 at BK149 HB hHeld ⊢
  refine tV 0 3 (bl 11 1) HT_.out HW_.out hHeld ?_ (hv := by rintro w' ⟨s0, s1, s2, s3, s4⟩; go_simp; with_reducible rfl)
  refine one_ (i := 1) (N := some 4) (bl 11 3) rfl rfl (one_of HT_.out (by kernel_rfl)) (by decide) (fun K hK => ?_)
  refine goes_ Tryz.func106 (by kernel_rfl) rfl #[.agg #[.int .i64 a0_0, .string a0_1, .string a0_2, .int .i64 a0_3, .int .i64 a0_4]] (by rfl) rfl rfl (by (try simp only [qM0, qM1, qM2]); first | done | rfl | (simp only [qD0, qD1]; rfl)) ?_
  with_reducible refine (rules_May.calls k a0_0 a0_1 a0_2 a0_3 a0_4 false _ A2.out).mono ?_
  rintro e w11 ⟨rfl, hb⟩
  refine ⟨_, rfl, ?_⟩
  have n0_ := aK (kBe (g := gb149) (o := .cells #[.int .i64 a0_0, .string a0_1, .string a0_2, .int .i64 a0_3, .int .i64 a0_4] 50 (0, 0)) (kX BK149.out) hb)
  have n1_ := aK (bSp (bX1 GE149.out) hb)
  clear BK149; clear HB
  have BK149 := n0_
  have HB := n1_
  clear n0_ n1_
  (try clear hb)
  (try clear hb2)
  (try clear hk)
  (try clear hi)
  refine hK.out _ _ ⟨(kCe BK149.out 0).trans rfl, (kCe BK149.out 1).trans rfl, (kCe BK149.out 2).trans rfl, (kCe BK149.out 3).trans rfl, (kCe BK149.out 4).trans rfl⟩ (fun hHeld => ?_)
  clear hK K
  refine norm_ (a' := ?_) ?_ ?_
  rotate_left
  ·
   show Act.put _ (some 4) _ = _
   simp only [Act.put, qSa, qS0, qS1, i64_w, i32_w]
   rfl
  refine pV 2 5 (bl 11 7) HT_.out ?_
  refine pU 3 6 (bl 11 15) HT_.out ?_
  refine pU 4 7 (bl 11 31) HT_.out ?_
  refine pU 5 8 (bl 11 63) HT_.out ?_
  refine pU 6 9 (bl 11 127) HT_.out ?_
  refine pU 7 10 (bl 11 255) HT_.out ?_
  refine pU 8 11 (bl 11 511) HT_.out ?_
  refine pV 9 12 (bl 11 1023) HT_.out ?_
  refine pV 10 2 (bl 11 2047) HT_.out ?_
  refine done_ (done_of HT_.out (by kernel_rfl)) ?_
  try go_wp2
  go_ret
  exact ⟨eX, bX1 GE149.out⟩
 subst c3
 have H1 : ((check_most.f k a0_0 a0_1 a0_2 a0_3 a0_4).bind fun t151 => (some (decide ((a0_2.size : Int) ≤ t151)))) = some r := by rw [if_pos rfl] at H; exact H
 clear H
 have H := H1
 clear H1
 replace H := oB H
 obtain ⟨t151, A40, H⟩ := H
 replace H : (some (decide ((a0_2.size : Int) ≤ t151))) = some r := H
 have A4 := aK A40
 clear A40
 obtain rfl := oI H
 go_enter Tryz.func75, Tryz.ntmps75
 try go_wp2_with (first | ((with_reducible refine gate_dst (N := 1) rfl ?_); (try (refine gate_guard (by rfl) ?_; dsimp only)); refine box_event ?hg (N := 1) ?hd (cs := #[.int .i64 a0_0, .string a0_1, .string a0_2, .int .i64 a0_3, .int .i64 a0_4]) (t := 50) ?hr ?_; (case hd => rfl); (case hg => rfl); (case hr => first | (go_simp; done) | (go_simp; rfl)); intro gb149 hg w5 hbox hb; have n0_ := aK (bSp bX hb); have n1_ := aK (hbox); have n2_ := aK ((by rw [hg]; exact (bSz bX) : w.heap.size ≤ gb149)); have n3_ := aK ((by rw [hg]; exact (bSz bX) : w.heap.size ≤ gb149)); clear HB; have HB := n0_; have BK149 := n1_; have GW149 := n2_; have GE149 := n3_; clear n0_ n1_ n2_ n3_; clear hb hbox hg))
 have n0_ := aK (kDr BK149.out)
 have n1_ := aK (bD1 HB.out)
 clear BK149
 clear HB
 have BK149 := n0_
 have HB := n1_
 clear n0_ n1_
 refine start_ (n := 11) (S := fun w' => w'.cell? ⟨gb149, 0, none⟩ = some (.int .i64 a0_0) ∧ w'.cell? ⟨gb149, 1, none⟩ = some (.string a0_1) ∧ w'.cell? ⟨gb149, 2, none⟩ = some (.string a0_2) ∧ w'.cell? ⟨gb149, 3, none⟩ = some (.int .i64 a0_3) ∧ w'.cell? ⟨gb149, 4, none⟩ = some (.int .i64 a0_4)) (ds := []) (bl 11 0) (by kernel_rfl) rfl (by kernel_rfl) ⟨(kCe BK149.out 0).trans rfl, (kCe BK149.out 1).trans rfl, (kCe BK149.out 2).trans rfl, (kCe BK149.out 3).trans rfl, (kCe BK149.out 4).trans rfl⟩ (fun hHeld => ?_); refine with_tabW check_Alone.tab1 check_Alone.bits1 (fun HT_ HW_ => ?_)
 generalize w5.drew = w6 at BK149 HB hHeld ⊢
 refine tV 0 3 (bl 11 1) HT_.out HW_.out hHeld ?_ (hv := by rintro w' ⟨s0, s1, s2, s3, s4⟩; go_simp; with_reducible rfl)
 refine one_ (i := 1) (N := some 4) (bl 11 3) rfl rfl (one_of HT_.out (by kernel_rfl)) (by decide) (fun K hK => ?_)
 refine goes_ Tryz.func106 (by kernel_rfl) rfl #[.agg #[.int .i64 a0_0, .string a0_1, .string a0_2, .int .i64 a0_3, .int .i64 a0_4]] (by rfl) rfl rfl (by (try simp only [qM0, qM1, qM2]); first | done | rfl | (simp only [qD0, qD1]; rfl)) ?_
 with_reducible refine (rules_May.calls k a0_0 a0_1 a0_2 a0_3 a0_4 true _ A2.out).mono ?_
 rintro e w7 ⟨rfl, hb⟩
 refine ⟨_, rfl, ?_⟩
 have n0_ := aK (kBe (g := gb149) (o := .cells #[.int .i64 a0_0, .string a0_1, .string a0_2, .int .i64 a0_3, .int .i64 a0_4] 50 (0, 0)) (kX BK149.out) hb)
 have n1_ := aK (bSp (bX1 GE149.out) hb)
 clear BK149
 clear HB
 have BK149 := n0_
 have HB := n1_
 clear n0_ n1_
 (try clear hb)
 (try clear hb2)
 (try clear hk)
 (try clear hi)
 refine hK.out _ _ ⟨(kCe BK149.out 0).trans rfl, (kCe BK149.out 1).trans rfl, (kCe BK149.out 2).trans rfl, (kCe BK149.out 3).trans rfl, (kCe BK149.out 4).trans rfl⟩ (fun hHeld => ?_)
 clear hK K
 refine norm_ (a' := ?_) ?_ ?_
 rotate_left
 ·
  show Act.put _ (some 4) _ = _
  simp only [Act.put, qSa, qS0, qS1, i64_w, i32_w]
  rfl
 refine pV 2 5 (bl 11 7) HT_.out ?_
 refine pV 3 6 (bl 11 15) HT_.out ?_
 refine tV 4 7 (bl 11 31) HT_.out HW_.out hHeld ?_ (hv := by rintro w' ⟨s0, s1, s2, s3, s4⟩; go_simp; with_reducible rfl)
 refine pV 5 8 (bl 11 63) HT_.out ?_
 refine tV 6 9 (bl 11 127) HT_.out HW_.out hHeld ?_ (hv := by rintro w' ⟨s0, s1, s2, s3, s4⟩; go_simp; with_reducible rfl)
 refine one_ (i := 7) (N := some 10) (bl 11 255) rfl rfl (one_of HT_.out (by kernel_rfl)) (by decide) (fun K hK => ?_)
 refine goes_ Tryz.func107 (by kernel_rfl) rfl #[.agg #[.int .i64 a0_0, .string a0_1, .string a0_2, .int .i64 a0_3, .int .i64 a0_4]] (by rfl) rfl rfl (by (try simp only [qM0, qM1, qM2]); first | done | rfl | (simp only [qD0, qD1]; rfl)) ?_
 with_reducible refine (check_most.calls k a0_0 a0_1 a0_2 a0_3 a0_4 t151 _ A4.out).mono ?_
 rintro e w8 ⟨rfl, hb⟩
 refine ⟨_, rfl, ?_⟩
 have n0_ := aK (kBe (g := gb149) (o := .cells #[.int .i64 a0_0, .string a0_1, .string a0_2, .int .i64 a0_3, .int .i64 a0_4] 50 (0, 0)) (kX BK149.out) hb)
 have n1_ := aK (bSp (bX1 GE149.out) hb)
 clear BK149
 clear HB
 have BK149 := n0_
 have HB := n1_
 clear n0_ n1_
 (try clear hb)
 (try clear hb2)
 (try clear hk)
 (try clear hi)
 refine hK.out _ _ ⟨(kCe BK149.out 0).trans rfl, (kCe BK149.out 1).trans rfl, (kCe BK149.out 2).trans rfl, (kCe BK149.out 3).trans rfl, (kCe BK149.out 4).trans rfl⟩ (fun hHeld => ?_)
 clear hK K
 refine norm_ (a' := ?_) ?_ ?_
 rotate_left
 ·
  show Act.put _ (some 10) _ = _
  simp only [Act.put, qSa, qS0, qS1, i64_w, i32_w]
  rfl
 refine pV 8 11 (bl 11 511) HT_.out ?_
 refine pV 9 12 (bl 11 1023) HT_.out ?_
 refine pV 10 2 (bl 11 2047) HT_.out ?_
 refine done_ (done_of HT_.out (by kernel_rfl)) ?_
 try go_wp2
 go_ret
 exact ⟨eX, bX1 GE149.out⟩
def check_begins.f (a0 : ByteArray) (a1 : ByteArray) : Option (Bool) := (strings_HasPrefix.f a0 a1).bind fun t152 => (if t152 = true then (some true) else ((strings_HasPrefix.f a1 a0).bind fun t153 => (some t153)))
theorem check_begins.calls (a0 : ByteArray) (a1 : ByteArray) (r : Bool) (w : World) (h : check_begins.f a0 a1 = some r) :
  Calls Tryz.prog 109 #[.string a0, .string a1] w fun e w' => e = .returned (.bool r) ∧ Drawn0 w w' := by
 have H : ((strings_HasPrefix.f a0 a1).bind fun t152 => (if t152 = true then (some true) else ((strings_HasPrefix.f a1 a0).bind fun t153 => (some t153)))) = some r := h
 clear h
 obtain ⟨t152, A3, H⟩ := oC H
 try dsimp only at H
 by_cases c4 : t152 = true
 rotate_left
 ·
  replace c4 := Bool.eq_false_iff.mpr c4; subst c4
  have H1 : ((strings_HasPrefix.f a1 a0).bind fun t153 => (some t153)) = some r := by rw [if_neg (show ¬ (false = true) by decide)] at H; exact H
  clear H
  have H := H1
  clear H1
  replace H := oB H
  obtain ⟨t153, A50, H⟩ := H
  replace H : (some t153) = some r := H
  have A5 := aK A50; clear A50; obtain rfl := oI H
  go_enter Tryz.func109, Tryz.ntmps109
  go_wp2_with (first | ((with_reducible refine gate_callee (f := 134) rfl ?_); refine gO 7 Tryz.func134 #[.string a0, .string a1] ?_; (with_reducible refine (strings_HasPrefix.calls a0 a1 false _ A3.out).mono ?_); rintro e w' ⟨rfl, ⟨nd, rfl⟩⟩; refine ⟨_, rfl, ?_⟩) | (go_at_call 134; (with_reducible refine (strings_HasPrefix.calls a1 a0 t153 _ A5.out).mono ?_); rintro e w' ⟨rfl, ⟨nd, rfl⟩⟩))
  go_ret
  exact ⟨sX, dX⟩
 subst c4
 have H1 : (some true) = some r := by rw [if_pos rfl] at H; exact H
 clear H
 have H := H1
 clear H1
 obtain rfl := oI H
 go_enter Tryz.func109, Tryz.ntmps109
 go_wp2_with (first | ((with_reducible refine gate_callee (f := 134) rfl ?_); refine gO 7 Tryz.func134 #[.string a0, .string a1] ?_; (with_reducible refine (strings_HasPrefix.calls a0 a1 true _ A3.out).mono ?_); rintro e w' ⟨rfl, ⟨nd, rfl⟩⟩; refine ⟨_, rfl, ?_⟩))
 go_ret
 exact ⟨sX, dX⟩
end Go.Proofs.YtbpbniemjjhecaaGreat.PChk
end
section
namespace Go.Proofs.YtbpbniemjjhecaaGreat.PChk
open Go.RowKit Go.Proofs.YtbpbniemjjhecaaGreat.G Go.Proofs.YtbpbniemjjhecaaGreatW.PrintWords Go.Proofs.YtbpbniemjjhecaaGreatW.PrintLast Go.Proofs.YtbpbniemjjhecaaGreatW.PrintMore
attribute [local go_sem] max2_int min2_int max_two min_two max_three min_three max_four min_four
set_option linter.unusedVariables false
set_option linter.unusedSimpArgs false
set_option maxHeartbeats 8000000
set_option maxRecDepth 100000
def check_spoils.j0 : Nat → Bool → Int → ByteArray → ByteArray → Int → Int → Int → ByteArray → ByteArray → Int → Int → Option (Bool)
 | 0, _, _, _, _, _, _, _, _, _, _, _ => none
 | k + 1, x5, x155000, x155001, x155002, x155003, x155004, x156000, x156001, x156002, x156003, x156004 => if x5 = true then (some true) else (if x155000 = 8 then (if x156000 = 5 then ((strings_HasPrefix.f x156002 x155002).bind fun t158 => (some t158)) else (some false)) else (some false))
def check_spoils.f (k : Nat) (a0_0 : Int) (a0_1 : ByteArray) (a0_2 : ByteArray) (a0_3 : Int) (a0_4 : Int) (a1_0 : Int) (a1_1 : ByteArray) (a1_2 : ByteArray) (a1_3 : Int) (a1_4 : Int) : Option (Bool) := (check_kept.f a0_0 a0_1 a0_2 a0_3 a0_4).bind fun t156 => (if t156 = true then ((strings_Contains.f a1_2 a0_2).bind fun t157 => (check_spoils.j0 k t157 a0_0 a0_1 a0_2 a0_3 a0_4 a1_0 a1_1 a1_2 a1_3 a1_4)) else (check_spoils.j0 k false a0_0 a0_1 a0_2 a0_3 a0_4 a1_0 a1_1 a1_2 a1_3 a1_4))
theorem check_spoils.calls (k : Nat) (a0_0 : Int) (a0_1 : ByteArray) (a0_2 : ByteArray) (a0_3 : Int) (a0_4 : Int) (a1_0 : Int) (a1_1 : ByteArray) (a1_2 : ByteArray) (a1_3 : Int) (a1_4 : Int) (r : Bool) (w : World) (h : check_spoils.f k a0_0 a0_1 a0_2 a0_3 a0_4 a1_0 a1_1 a1_2 a1_3 a1_4 = some r) :
  Calls Tryz.prog 110 #[.agg #[.int .i64 a0_0, .string a0_1, .string a0_2, .int .i64 a0_3, .int .i64 a0_4], .agg #[.int .i64 a1_0, .string a1_1, .string a1_2, .int .i64 a1_3, .int .i64 a1_4]] w fun e w' => e = .returned (.bool r) ∧ Below w.heap.size w w' := by
 have hu50 := Tryz.underlying50
 have HB := aK (Below.refl w.heap.size w)
 have H : ((check_kept.f a0_0 a0_1 a0_2 a0_3 a0_4).bind fun t156 => (if t156 = true then ((strings_Contains.f a1_2 a0_2).bind fun t157 => (check_spoils.j0 k t157 a0_0 a0_1 a0_2 a0_3 a0_4 a1_0 a1_1 a1_2 a1_3 a1_4)) else (check_spoils.j0 k false a0_0 a0_1 a0_2 a0_3 a0_4 a1_0 a1_1 a1_2 a1_3 a1_4))) = some r := h
 clear h
 have HC3 := aK H
 clear H
 go_enter Tryz.func110, Tryz.ntmps110
 go_upto_region 1 with (first | ((with_reducible refine gate_dst (N := 2) rfl ?_); refine box_event ?hg (N := 2) ?hd (cs := #[.int .i64 a0_0, .string a0_1, .string a0_2, .int .i64 a0_3, .int .i64 a0_4]) (t := 50) ?hr ?_; (case hd => rfl); (case hg => rfl); (case hr => first | (go_simp; done) | (go_simp; rfl)); intro gb154 hg w4 hbox hb; have n0_ := aK (bSp bX hb); have n1_ := aK (hbox); have n2_ := aK ((by rw [hg]; exact (bSz bX) : w.heap.size ≤ gb154)); have n3_ := aK ((by rw [hg]; exact (bSz bX) : w.heap.size ≤ gb154)); clear HB; have HB := n0_; have BK154 := n1_; have GW154 := n2_; have GE154 := n3_; clear n0_ n1_ n2_ n3_; clear hb hbox hg) | ((with_reducible refine gate_dst (N := 3) rfl ?_); refine box_event ?hg (N := 3) ?hd (cs := #[.int .i64 a1_0, .string a1_1, .string a1_2, .int .i64 a1_3, .int .i64 a1_4]) (t := 50) ?hr ?_; (case hd => rfl); (case hg => rfl); (case hr => first | (go_simp; done) | (go_simp; rfl)); intro gb155 hg w5 hbox hb; have n0_ := aK (kBe (g := gb154) (o := .cells #[.int .i64 a0_0, .string a0_1, .string a0_2, .int .i64 a0_3, .int .i64 a0_4] 50 (0, 0)) (kX BK154.out) hb); have n1_ := aK (bSp (bX1 GE154.out) hb); have n2_ := aK (hbox); have n3_ := aK ((by rw [hg]; exact (bSz (bX1 GE154.out)) : w.heap.size ≤ gb155)); have n4_ := aK ((by rw [hg]; exact (bSz (bX1 GE154.out)) : w.heap.size ≤ gb155)); have n5_ := aK ((by rw [hg]; exact Nat.ne_of_lt (blk_lt (g := gb154) (o := .cells #[.int .i64 a0_0, .string a0_1, .string a0_2, .int .i64 a0_3, .int .i64 a0_4] 50 (0, 0)) (kX BK154.out)) : gb154 ≠ gb155)); have n6_ := aK ((by rw [hg]; exact Nat.ne_of_gt (blk_lt (g := gb154) (o := .cells #[.int .i64 a0_0, .string a0_1, .string a0_2, .int .i64 a0_3, .int .i64 a0_4] 50 (0, 0)) (kX BK154.out)) : gb155 ≠ gb154)); clear BK154; clear HB; have BK154 := n0_; have HB := n1_; have BK155 := n2_; have GW155 := n3_; have GE155 := n4_; have NB154_155 := n5_; have NB155_154 := n6_; clear n0_ n1_ n2_ n3_ n4_ n5_ n6_; clear hb hbox hg))
 (try simp only [Act.put, qSa, qS0, qS1])
 go_cut [5] (fun v5 wc => ∃ (kq : Nat) (x5_2 : Bool), v5 = .bool x5_2 ∧ Aside0 (check_spoils.j0 kq x5_2 a0_0 a0_1 a0_2 a0_3 a0_4 a1_0 a1_1 a1_2 a1_3 a1_4 = some r) ∧ Aside0 (kq ≤ k) ∧ Aside0 (wc.heap[gb154]? = some (.cells #[.int .i64 a0_0, .string a0_1, .string a0_2, .int .i64 a0_3, .int .i64 a0_4] 50 (0, 0))) ∧ Aside0 (wc.heap[gb155]? = some (.cells #[.int .i64 a1_0, .string a1_1, .string a1_2, .int .i64 a1_3, .int .i64 a1_4] 50 (0, 0))) ∧ Aside0 (Below w.heap.size w wc))
 case first =>
  have H := HC3.out; clear HC3; obtain ⟨t156, A6, H⟩ := oC H
  try dsimp only at H
  by_cases c7 : t156 = true
  rotate_left
  ·
   replace c7 := Bool.eq_false_iff.mpr c7; subst c7
   have H1 : (check_spoils.j0 k false a0_0 a0_1 a0_2 a0_3 a0_4 a1_0 a1_1 a1_2 a1_3 a1_4) = some r := by rw [if_neg (show ¬ (false = true) by decide)] at H; exact H
   clear H
   have H := H1
   clear H1; have H' := aK H; clear H; have hnb14 := NB154_155.out; have hnc14 := NB155_154.out; obtain ⟨hcz15_0, hcz15_1, hcz15_2, hcz15_3, hcz15_4⟩ := kC5 BK154.out
   go_wp2_with (first | ((with_reducible refine gate_callee (f := 133) rfl ?_); refine gO 7 Tryz.func133 #[.agg #[.int .i64 a0_0, .string a0_1, .string a0_2, .int .i64 a0_3, .int .i64 a0_4]] ?_; (with_reducible refine (check_kept.calls a0_0 a0_1 a0_2 a0_3 a0_4 false _ A6.out).mono ?_); rintro e w16 ⟨rfl, hb⟩; refine ⟨_, rfl, ?_⟩; replace BK154 := aK (kBe (g := gb154) (o := .cells #[.int .i64 a0_0, .string a0_1, .string a0_2, .int .i64 a0_3, .int .i64 a0_4] 50 (0, 0)) (kX BK154.out) hb); replace BK155 := aK (kBe (g := gb155) (o := .cells #[.int .i64 a1_0, .string a1_1, .string a1_2, .int .i64 a1_3, .int .i64 a1_4] 50 (0, 0)) (kX BK155.out) hb); replace HB := aK (bSp (bX2 GE154.out GE155.out) hb); clear hb))
   go_meet
   case rel => exact ⟨_, (false), sX, H', ⟨by first | omega | exact Nat.le_refl _⟩, ⟨kX BK154.out⟩, ⟨kX BK155.out⟩, ⟨bX2 GE154.out GE155.out⟩⟩
  subst c7
  have H1 : ((strings_Contains.f a1_2 a0_2).bind fun t157 => (check_spoils.j0 k t157 a0_0 a0_1 a0_2 a0_3 a0_4 a1_0 a1_1 a1_2 a1_3 a1_4)) = some r := by rw [if_pos rfl] at H; exact H
  clear H
  have H := H1
  clear H1; obtain ⟨t157, A8, H⟩ := oC H
  try dsimp only at H
  have H' := aK H; clear H; have hnb9 := NB154_155.out; have hnc9 := NB155_154.out; obtain ⟨hcz10_0, hcz10_1, hcz10_2, hcz10_3, hcz10_4⟩ := kC5 BK154.out
  go_wp2_with (first | ((with_reducible refine gate_callee (f := 133) rfl ?_); refine gO 7 Tryz.func133 #[.agg #[.int .i64 a0_0, .string a0_1, .string a0_2, .int .i64 a0_3, .int .i64 a0_4]] ?_; (with_reducible refine (check_kept.calls a0_0 a0_1 a0_2 a0_3 a0_4 true _ A6.out).mono ?_); rintro e w11 ⟨rfl, hb⟩; refine ⟨_, rfl, ?_⟩; replace BK154 := aK (kBe (g := gb154) (o := .cells #[.int .i64 a0_0, .string a0_1, .string a0_2, .int .i64 a0_3, .int .i64 a0_4] 50 (0, 0)) (kX BK154.out) hb); replace BK155 := aK (kBe (g := gb155) (o := .cells #[.int .i64 a1_0, .string a1_1, .string a1_2, .int .i64 a1_3, .int .i64 a1_4] 50 (0, 0)) (kX BK155.out) hb); replace HB := aK (bSp (bX2 GE154.out GE155.out) hb); clear hb; have hcz12_0 : w11.cell? ⟨gb155, 0, none⟩ = some (.int .i64 a1_0) := (kCe BK155.out 0).trans rfl; have hcz12_1 : w11.cell? ⟨gb155, 1, none⟩ = some (.string a1_1) := (kCe BK155.out 1).trans rfl; have hcz12_2 : w11.cell? ⟨gb155, 2, none⟩ = some (.string a1_2) := (kCe BK155.out 2).trans rfl; have hcz12_3 : w11.cell? ⟨gb155, 3, none⟩ = some (.int .i64 a1_3) := (kCe BK155.out 3).trans rfl; have hcz12_4 : w11.cell? ⟨gb155, 4, none⟩ = some (.int .i64 a1_4) := (kCe BK155.out 4).trans rfl; have hcz13_0 : w11.cell? ⟨gb154, 0, none⟩ = some (.int .i64 a0_0) := (kCe BK154.out 0).trans rfl; have hcz13_1 : w11.cell? ⟨gb154, 1, none⟩ = some (.string a0_1) := (kCe BK154.out 1).trans rfl; have hcz13_2 : w11.cell? ⟨gb154, 2, none⟩ = some (.string a0_2) := (kCe BK154.out 2).trans rfl; have hcz13_3 : w11.cell? ⟨gb154, 3, none⟩ = some (.int .i64 a0_3) := (kCe BK154.out 3).trans rfl; have hcz13_4 : w11.cell? ⟨gb154, 4, none⟩ = some (.int .i64 a0_4) := (kCe BK154.out 4).trans rfl) | (go_at_call 135; (with_reducible refine (strings_Contains.calls a1_2 a0_2 t157 _ A8.out).mono ?_); rintro e w' ⟨rfl, ⟨nd, rfl⟩⟩))
  go_meet
  case rel => exact ⟨_, (t157), sX, H', ⟨by first | omega | exact Nat.le_refl _⟩, ⟨kX BK154.out⟩, ⟨kX BK155.out⟩, ⟨bX2 GE154.out GE155.out⟩⟩
 case rest =>
  clear HC3
  try clear c1
  try clear p2
  try clear c7
  try clear c9
  try clear c11
  try clear c13
  try clear c14
  try clear hcz10_0
  try clear hcz10_1
  try clear hcz10_2
  try clear hcz10_3
  try clear hcz10_4
  try clear hcz12_0
  try clear hcz12_1
  try clear hcz12_2
  try clear hcz12_3
  try clear hcz12_4
  try clear hcz13_0
  try clear hcz13_1
  try clear hcz13_2
  try clear hcz13_3
  try clear hcz13_4
  try clear hcz15_0
  try clear hcz15_1
  try clear hcz15_2
  try clear hcz15_3
  try clear hcz15_4
  obtain ⟨kq, x5_2, rfl, HA, HJ2, BK154, BK155, HB⟩ := hcut
  cases kq with
  | zero => exact absurd HA.out (by simp [check_spoils.j0])
  | succ kj2 =>
   have H := HA.out; clear HA
   simp only [check_spoils.j0] at H
   by_cases c17 : x5_2 = true
   rotate_left
   ·
    replace c17 := Bool.eq_false_iff.mpr c17; subst c17
    have H1 : (if a0_0 = 8 then (if a1_0 = 5 then ((strings_HasPrefix.f a1_2 a0_2).bind fun t158 => (some t158)) else (some false)) else (some false)) = some r := by rw [if_neg (show ¬ (false = true) by decide)] at H; exact H
    clear H
    have H := H1
    clear H1
    by_cases c18 : a0_0 = 8
    rotate_left
    ·
     rw [if_neg c18] at H; obtain ⟨c18b0, c18b1⟩ := bN c18; obtain rfl := oI H; have hnb27 := NB154_155.out; have hnc27 := NB155_154.out; obtain ⟨hcz28_0, hcz28_1, hcz28_2, hcz28_3, hcz28_4⟩ := kC5 BK154.out
     go_wp2
     go_ret
     exact ⟨eX, bX2 GE154.out GE155.out⟩
    rw [if_pos c18] at H; obtain ⟨c18b0, c18b1⟩ := bY c18; clear c18
    by_cases c19 : a1_0 = 5
    rotate_left
    ·
     rw [if_neg c19] at H; obtain ⟨c19b0, c19b1⟩ := bN c19; obtain rfl := oI H; have hnb24 := NB154_155.out; have hnc24 := NB155_154.out; obtain ⟨hcz25_0, hcz25_1, hcz25_2, hcz25_3, hcz25_4⟩ := kC5 BK154.out; obtain ⟨hcz26_0, hcz26_1, hcz26_2, hcz26_3, hcz26_4⟩ := kC5 BK155.out
     go_wp2
     go_ret
     exact ⟨eX, bX2 GE154.out GE155.out⟩
    rw [if_pos c19] at H; obtain ⟨c19b0, c19b1⟩ := bY c19; clear c19
    replace H := oB H
    obtain ⟨t158, A200, H⟩ := H
    replace H : (some t158) = some r := H
    have A20 := aK A200; clear A200; obtain rfl := oI H; have hnb21 := NB154_155.out; have hnc21 := NB155_154.out; obtain ⟨hcz22_0, hcz22_1, hcz22_2, hcz22_3, hcz22_4⟩ := kC5 BK154.out; obtain ⟨hcz23_0, hcz23_1, hcz23_2, hcz23_3, hcz23_4⟩ := kC5 BK155.out
    go_wp2_with (first | ((with_reducible refine gate_callee (f := 134) rfl ?_); refine gO 28 Tryz.func134 #[.string a1_2, .string a0_2] ?_; (with_reducible refine (strings_HasPrefix.calls a1_2 a0_2 t158 _ A20.out).mono ?_); rintro e w' ⟨rfl, ⟨nd, rfl⟩⟩; refine ⟨_, rfl, ?_⟩))
    go_ret
    exact ⟨eX, bX2 GE154.out GE155.out⟩
   subst c17
   have H1 : (some true) = some r := by rw [if_pos rfl] at H; exact H
   clear H
   have H := H1
   clear H1; obtain rfl := oI H
   go_wp2
   go_ret
   exact ⟨eX, bX2 GE154.out GE155.out⟩
end Go.Proofs.YtbpbniemjjhecaaGreat.PChk
end
