import Derived.Test.YtbpbniemjjhecaaZPChk0
import Derived.Test.YtbpbniemjjhecaaZPChk7
namespace Go.Proofs.Ytbpbniemjjhecaa.PChk
open Go.RowKit Go.Proofs.Ytbpbniemjjhecaa.G Go.Proofs.YtbpbniemjjhecaaW.PrintWords Go.Proofs.YtbpbniemjjhecaaW.PrintLast Go.Proofs.YtbpbniemjjhecaaW.PrintMore
attribute [local go_sem] max2_int min2_int max_two min_two max_three min_three max_four min_four
set_option linter.unusedVariables false
set_option linter.unusedSimpArgs false
set_option maxHeartbeats 8000000
set_option maxRecDepth 100000
def check_most.j0 : Nat → Bool → Int → ByteArray → ByteArray → Int → Int → Option (Int)
 | 0, _, _, _, _, _, _ => none
 | k + 1, x3, x218000, x218001, x218002, x218003, x218004 => if x3 = true then (some 1) else (if x218000 = 8 then (if x218001.toList = ([110, 117, 109] : List UInt8) then (some 2) else (if x218001.toList = ([108, 101, 116] : List UInt8) then (some 2) else (some 4))) else (some 4))
def check_most.f (k : Nat) (a0_0 : Int) (a0_1 : ByteArray) (a0_2 : ByteArray) (a0_3 : Int) (a0_4 : Int) : Option (Int) := (check_kept.f a0_0 a0_1 a0_2 a0_3 a0_4).bind fun t218 => (if t218 = true then (check_most.j0 k true a0_0 a0_1 a0_2 a0_3 a0_4) else (if a0_0 = 7 then (check_most.j0 k true a0_0 a0_1 a0_2 a0_3 a0_4) else (if a0_0 = 1 then (check_most.j0 k ((a0_1.size : Int) == 1) a0_0 a0_1 a0_2 a0_3 a0_4) else (check_most.j0 k false a0_0 a0_1 a0_2 a0_3 a0_4))))
theorem check_most.calls (k : Nat) (a0_0 : Int) (a0_1 : ByteArray) (a0_2 : ByteArray) (a0_3 : Int) (a0_4 : Int) (r : Int) (w : World) (h : check_most.f k a0_0 a0_1 a0_2 a0_3 a0_4 = some r) :
  Calls Try.prog 62 #[.agg #[.int .i64 a0_0, .string a0_1, .string a0_2, .int .i64 a0_3, .int .i64 a0_4]] w fun e w' => e = .returned (.int .i64 r) ∧ Below w.heap.size w w' := by
 have hu33 := Try.underlying33
 have HB := aK (Below.refl w.heap.size w)
 have H : ((check_kept.f a0_0 a0_1 a0_2 a0_3 a0_4).bind fun t218 => (if t218 = true then (check_most.j0 k true a0_0 a0_1 a0_2 a0_3 a0_4) else (if a0_0 = 7 then (check_most.j0 k true a0_0 a0_1 a0_2 a0_3 a0_4) else (if a0_0 = 1 then (check_most.j0 k ((a0_1.size : Int) == 1) a0_0 a0_1 a0_2 a0_3 a0_4) else (check_most.j0 k false a0_0 a0_1 a0_2 a0_3 a0_4))))) = some r := h
 clear h
 have HC2 := aK H
 clear H
 go_enter Try.func62, Try.ntmps62
 go_upto_region 1 with (first | ((with_reducible refine gate_dst (N := 1) rfl ?_); (try (refine gate_guard (by rfl) ?_; dsimp only)); refine box_event ?hg (N := 1) ?hd (cs := #[.int .i64 a0_0, .string a0_1, .string a0_2, .int .i64 a0_3, .int .i64 a0_4]) (t := 33) ?hr ?_; (case hd => rfl); (case hg => rfl); (case hr => first | (go_simp; done) | (go_simp; rfl)); intro gb217 hg w3 hbox hb; have n0_ := aK (bSp (by repeat (first | (with_reducible first | exact HB.out | apply bAl | apply pbD | apply bD1) | exact HB.out)) hb); have n1_ := aK (hbox); have n2_ := aK ((by rw [hg]; exact (bSz (by repeat (first | (with_reducible first | exact HB.out | apply bAl | apply pbD | apply bD1) | exact HB.out))) : w.heap.size ≤ gb217)); have n3_ := aK ((by rw [hg]; exact (bSz (by repeat (first | (with_reducible first | exact HB.out | apply bAl | apply pbD | apply bD1) | exact HB.out))) : w.heap.size ≤ gb217)); clear HB; have HB := n0_; have BK217 := n1_; have GW217 := n2_; have GE217 := n3_; clear n0_ n1_ n2_ n3_; clear hb hbox hg))
 (try simp only [Act.put, qSa, qS0, qS1])
 go_cut [3] (fun v3 wc => ∃ (kq : Nat) (x3_1 : Bool), v3 = .bool x3_1 ∧ Aside0 (check_most.j0 kq x3_1 a0_0 a0_1 a0_2 a0_3 a0_4 = some r) ∧ Aside0 (kq ≤ k) ∧ Aside0 (wc.heap[gb217]? = some (.cells #[.int .i64 a0_0, .string a0_1, .string a0_2, .int .i64 a0_3, .int .i64 a0_4] 33 (0, 0))) ∧ Aside0 (Below w.heap.size w wc))
 case first =>
  have H := HC2.out
  clear HC2
  replace H := oB H
  obtain ⟨t218, A40, H⟩ := H
  try dsimp only at H
  have A4 := aK A40
  clear A40
  by_cases c5 : t218 = true
  rotate_left
  ·
   replace c5 := Bool.eq_false_iff.mpr c5
   subst c5
   have H1 : (if a0_0 = 7 then (check_most.j0 k true a0_0 a0_1 a0_2 a0_3 a0_4) else (if a0_0 = 1 then (check_most.j0 k ((a0_1.size : Int) == 1) a0_0 a0_1 a0_2 a0_3 a0_4) else (check_most.j0 k false a0_0 a0_1 a0_2 a0_3 a0_4))) = some r := by rw [if_neg (show ¬ (false = true) by decide)] at H; exact H
   clear H
   have H := H1
   clear H1
   by_cases c8 : a0_0 = 7
   rotate_left
   ·
    rw [if_neg c8] at H
    have c8b0 : (a0_0 == 7) = false := beq_eq_false_iff_ne.mpr c8
    have c8b1 : (a0_0 != 7) = true := bne_iff_ne.mpr c8
    (first | rw [c8b0] | (simp only [i64_w, i32_w]; rw [c8b0]) | skip)
    by_cases c12 : a0_0 = 1
    rotate_left
    ·
     rw [if_neg c12] at H
     have c12b0 : (a0_0 == 1) = false := beq_eq_false_iff_ne.mpr c12
     have c12b1 : (a0_0 != 1) = true := bne_iff_ne.mpr c12
     have H' := aK H
     clear H
     have hcz16_0 : w3.cell? ⟨gb217, 0, none⟩ = some (.int .i64 a0_0) := (kCe BK217.out 0).trans rfl
     have hcz16_1 : w3.cell? ⟨gb217, 1, none⟩ = some (.string a0_1) := (kCe BK217.out 1).trans rfl
     have hcz16_2 : w3.cell? ⟨gb217, 2, none⟩ = some (.string a0_2) := (kCe BK217.out 2).trans rfl
     have hcz16_3 : w3.cell? ⟨gb217, 3, none⟩ = some (.int .i64 a0_3) := (kCe BK217.out 3).trans rfl
     have hcz16_4 : w3.cell? ⟨gb217, 4, none⟩ = some (.int .i64 a0_4) := (kCe BK217.out 4).trans rfl
     go_wp2_with (first | ((with_reducible refine gate_callee (f := 82) rfl ?_); refine goesL_ (some 5) rfl rfl Try.func82 (by kernel_rfl) rfl #[.agg #[.int .i64 a0_0, .string a0_1, .string a0_2, .int .i64 a0_3, .int .i64 a0_4]] rfl (by (try simp only [qM0, qM1, qM2]); first | done | rfl | (simp only [qD0, qD1]; rfl)) ?_; (with_reducible refine (check_kept.calls a0_0 a0_1 a0_2 a0_3 a0_4 false _ A4.out).mono ?_); rintro e w17 ⟨rfl, hb⟩; refine ⟨_, rfl, ?_⟩; have n0_ := aK (kBe (g := gb217) (o := .cells #[.int .i64 a0_0, .string a0_1, .string a0_2, .int .i64 a0_3, .int .i64 a0_4] 33 (0, 0)) (by (with_reducible repeat (first | refine kDN ?_ _ | refine kDr ?_ | refine kAl ?_ _)); exact BK217.out) hb); have n1_ := aK (bSp (by repeat (first | (with_reducible first | exact HB.out | apply bAl | apply pbD | apply bD1 | refine bSt ?_ GE217.out) | exact HB.out)) hb); clear BK217; clear HB; have BK217 := n0_; have HB := n1_; clear n0_ n1_; (try clear hb); (try clear hb2); (try clear hk); (try clear hi); have hcz18_0 : w17.cell? ⟨gb217, 0, none⟩ = some (.int .i64 a0_0) := (kCe BK217.out 0).trans rfl; have hcz18_1 : w17.cell? ⟨gb217, 1, none⟩ = some (.string a0_1) := (kCe BK217.out 1).trans rfl; have hcz18_2 : w17.cell? ⟨gb217, 2, none⟩ = some (.string a0_2) := (kCe BK217.out 2).trans rfl; have hcz18_3 : w17.cell? ⟨gb217, 3, none⟩ = some (.int .i64 a0_3) := (kCe BK217.out 3).trans rfl; have hcz18_4 : w17.cell? ⟨gb217, 4, none⟩ = some (.int .i64 a0_4) := (kCe BK217.out 4).trans rfl))
     go_meet
     case rel => exact ⟨_, (false), (by first | rfl | (simp; done) | (simp [*]; done)), H', ⟨by first | omega | exact Nat.le_refl _⟩, ⟨by (with_reducible repeat (first | refine kDN ?_ _ | refine kDr ?_ | refine kAl ?_ _)); exact BK217.out⟩, ⟨by repeat (first | (with_reducible first | exact HB.out | apply bAl | apply pbD | apply bD1 | refine bSt ?_ GE217.out) | exact HB.out)⟩⟩
    rw [if_pos c12] at H
    have c12b0 : (a0_0 == 1) = true := beq_iff_eq.mpr c12
    have c12b1 : (a0_0 != 1) = false := bne_eq_false_iff_eq.mpr c12
    clear c12
    have H' := aK H
    clear H
    have hcz13_0 : w3.cell? ⟨gb217, 0, none⟩ = some (.int .i64 a0_0) := (kCe BK217.out 0).trans rfl
    have hcz13_1 : w3.cell? ⟨gb217, 1, none⟩ = some (.string a0_1) := (kCe BK217.out 1).trans rfl
    have hcz13_2 : w3.cell? ⟨gb217, 2, none⟩ = some (.string a0_2) := (kCe BK217.out 2).trans rfl
    have hcz13_3 : w3.cell? ⟨gb217, 3, none⟩ = some (.int .i64 a0_3) := (kCe BK217.out 3).trans rfl
    have hcz13_4 : w3.cell? ⟨gb217, 4, none⟩ = some (.int .i64 a0_4) := (kCe BK217.out 4).trans rfl
    go_wp2_with (first | ((with_reducible refine gate_callee (f := 82) rfl ?_); refine goesL_ (some 5) rfl rfl Try.func82 (by kernel_rfl) rfl #[.agg #[.int .i64 a0_0, .string a0_1, .string a0_2, .int .i64 a0_3, .int .i64 a0_4]] rfl (by (try simp only [qM0, qM1, qM2]); first | done | rfl | (simp only [qD0, qD1]; rfl)) ?_; (with_reducible refine (check_kept.calls a0_0 a0_1 a0_2 a0_3 a0_4 false _ A4.out).mono ?_); rintro e w14 ⟨rfl, hb⟩; refine ⟨_, rfl, ?_⟩; have n0_ := aK (kBe (g := gb217) (o := .cells #[.int .i64 a0_0, .string a0_1, .string a0_2, .int .i64 a0_3, .int .i64 a0_4] 33 (0, 0)) (by (with_reducible repeat (first | refine kDN ?_ _ | refine kDr ?_ | refine kAl ?_ _)); exact BK217.out) hb); have n1_ := aK (bSp (by repeat (first | (with_reducible first | exact HB.out | apply bAl | apply pbD | apply bD1 | refine bSt ?_ GE217.out) | exact HB.out)) hb); clear BK217; clear HB; have BK217 := n0_; have HB := n1_; clear n0_ n1_; (try clear hb); (try clear hb2); (try clear hk); (try clear hi); have hcz15_0 : w14.cell? ⟨gb217, 0, none⟩ = some (.int .i64 a0_0) := (kCe BK217.out 0).trans rfl; have hcz15_1 : w14.cell? ⟨gb217, 1, none⟩ = some (.string a0_1) := (kCe BK217.out 1).trans rfl; have hcz15_2 : w14.cell? ⟨gb217, 2, none⟩ = some (.string a0_2) := (kCe BK217.out 2).trans rfl; have hcz15_3 : w14.cell? ⟨gb217, 3, none⟩ = some (.int .i64 a0_3) := (kCe BK217.out 3).trans rfl; have hcz15_4 : w14.cell? ⟨gb217, 4, none⟩ = some (.int .i64 a0_4) := (kCe BK217.out 4).trans rfl))
    go_meet
    case rel => exact ⟨_, (((a0_1.size : Int) == 1)), (by first | rfl | (simp; done) | (simp [*]; done)), H', ⟨by first | omega | exact Nat.le_refl _⟩, ⟨by (with_reducible repeat (first | refine kDN ?_ _ | refine kDr ?_ | refine kAl ?_ _)); exact BK217.out⟩, ⟨by repeat (first | (with_reducible first | exact HB.out | apply bAl | apply pbD | apply bD1 | refine bSt ?_ GE217.out) | exact HB.out)⟩⟩
   rw [if_pos c8] at H
   have c8b0 : (a0_0 == 7) = true := beq_iff_eq.mpr c8
   have c8b1 : (a0_0 != 7) = false := bne_eq_false_iff_eq.mpr c8
   clear c8
   (first | rw [c8b0] | (simp only [i64_w, i32_w]; rw [c8b0]) | skip)
   have H' := aK H
   clear H
   have hcz9_0 : w3.cell? ⟨gb217, 0, none⟩ = some (.int .i64 a0_0) := (kCe BK217.out 0).trans rfl
   have hcz9_1 : w3.cell? ⟨gb217, 1, none⟩ = some (.string a0_1) := (kCe BK217.out 1).trans rfl
   have hcz9_2 : w3.cell? ⟨gb217, 2, none⟩ = some (.string a0_2) := (kCe BK217.out 2).trans rfl
   have hcz9_3 : w3.cell? ⟨gb217, 3, none⟩ = some (.int .i64 a0_3) := (kCe BK217.out 3).trans rfl
   have hcz9_4 : w3.cell? ⟨gb217, 4, none⟩ = some (.int .i64 a0_4) := (kCe BK217.out 4).trans rfl
   go_wp2_with (first | ((with_reducible refine gate_callee (f := 82) rfl ?_); refine goesL_ (some 5) rfl rfl Try.func82 (by kernel_rfl) rfl #[.agg #[.int .i64 a0_0, .string a0_1, .string a0_2, .int .i64 a0_3, .int .i64 a0_4]] rfl (by (try simp only [qM0, qM1, qM2]); first | done | rfl | (simp only [qD0, qD1]; rfl)) ?_; (with_reducible refine (check_kept.calls a0_0 a0_1 a0_2 a0_3 a0_4 false _ A4.out).mono ?_); rintro e w10 ⟨rfl, hb⟩; refine ⟨_, rfl, ?_⟩; have n0_ := aK (kBe (g := gb217) (o := .cells #[.int .i64 a0_0, .string a0_1, .string a0_2, .int .i64 a0_3, .int .i64 a0_4] 33 (0, 0)) (by (with_reducible repeat (first | refine kDN ?_ _ | refine kDr ?_ | refine kAl ?_ _)); exact BK217.out) hb); have n1_ := aK (bSp (by repeat (first | (with_reducible first | exact HB.out | apply bAl | apply pbD | apply bD1 | refine bSt ?_ GE217.out) | exact HB.out)) hb); clear BK217; clear HB; have BK217 := n0_; have HB := n1_; clear n0_ n1_; (try clear hb); (try clear hb2); (try clear hk); (try clear hi); have hcz11_0 : w10.cell? ⟨gb217, 0, none⟩ = some (.int .i64 a0_0) := (kCe BK217.out 0).trans rfl; have hcz11_1 : w10.cell? ⟨gb217, 1, none⟩ = some (.string a0_1) := (kCe BK217.out 1).trans rfl; have hcz11_2 : w10.cell? ⟨gb217, 2, none⟩ = some (.string a0_2) := (kCe BK217.out 2).trans rfl; have hcz11_3 : w10.cell? ⟨gb217, 3, none⟩ = some (.int .i64 a0_3) := (kCe BK217.out 3).trans rfl; have hcz11_4 : w10.cell? ⟨gb217, 4, none⟩ = some (.int .i64 a0_4) := (kCe BK217.out 4).trans rfl))
   go_meet
   case rel => exact ⟨_, (true), (by first | rfl | (simp; done) | (simp [*]; done)), H', ⟨by first | omega | exact Nat.le_refl _⟩, ⟨by (with_reducible repeat (first | refine kDN ?_ _ | refine kDr ?_ | refine kAl ?_ _)); exact BK217.out⟩, ⟨by repeat (first | (with_reducible first | exact HB.out | apply bAl | apply pbD | apply bD1 | refine bSt ?_ GE217.out) | exact HB.out)⟩⟩
  subst c5
  have H1 : (check_most.j0 k true a0_0 a0_1 a0_2 a0_3 a0_4) = some r := by rw [if_pos rfl] at H; exact H
  clear H
  have H := H1
  clear H1
  have H' := aK H
  clear H
  have hcz6_0 : w3.cell? ⟨gb217, 0, none⟩ = some (.int .i64 a0_0) := (kCe BK217.out 0).trans rfl
  have hcz6_1 : w3.cell? ⟨gb217, 1, none⟩ = some (.string a0_1) := (kCe BK217.out 1).trans rfl
  have hcz6_2 : w3.cell? ⟨gb217, 2, none⟩ = some (.string a0_2) := (kCe BK217.out 2).trans rfl
  have hcz6_3 : w3.cell? ⟨gb217, 3, none⟩ = some (.int .i64 a0_3) := (kCe BK217.out 3).trans rfl
  have hcz6_4 : w3.cell? ⟨gb217, 4, none⟩ = some (.int .i64 a0_4) := (kCe BK217.out 4).trans rfl
  go_wp2_with (first | ((with_reducible refine gate_callee (f := 82) rfl ?_); refine goesL_ (some 5) rfl rfl Try.func82 (by kernel_rfl) rfl #[.agg #[.int .i64 a0_0, .string a0_1, .string a0_2, .int .i64 a0_3, .int .i64 a0_4]] rfl (by (try simp only [qM0, qM1, qM2]); first | done | rfl | (simp only [qD0, qD1]; rfl)) ?_; (with_reducible refine (check_kept.calls a0_0 a0_1 a0_2 a0_3 a0_4 true _ A4.out).mono ?_); rintro e w7 ⟨rfl, hb⟩; refine ⟨_, rfl, ?_⟩; have n0_ := aK (kBe (g := gb217) (o := .cells #[.int .i64 a0_0, .string a0_1, .string a0_2, .int .i64 a0_3, .int .i64 a0_4] 33 (0, 0)) (by (with_reducible repeat (first | refine kDN ?_ _ | refine kDr ?_ | refine kAl ?_ _)); exact BK217.out) hb); have n1_ := aK (bSp (by repeat (first | (with_reducible first | exact HB.out | apply bAl | apply pbD | apply bD1 | refine bSt ?_ GE217.out) | exact HB.out)) hb); clear BK217; clear HB; have BK217 := n0_; have HB := n1_; clear n0_ n1_; (try clear hb); (try clear hb2); (try clear hk); (try clear hi)))
  go_meet
  case rel => exact ⟨_, (true), (by first | rfl | (simp; done) | (simp [*]; done)), H', ⟨by first | omega | exact Nat.le_refl _⟩, ⟨by (with_reducible repeat (first | refine kDN ?_ _ | refine kDr ?_ | refine kAl ?_ _)); exact BK217.out⟩, ⟨by repeat (first | (with_reducible first | exact HB.out | apply bAl | apply pbD | apply bD1 | refine bSt ?_ GE217.out) | exact HB.out)⟩⟩
 case rest =>
  clear HC2
  try clear c1
  try clear p2
  try clear c5
  try clear c6
  try clear c8
  try clear c8b0
  try clear c8b1
  try clear c12
  try clear c12b0
  try clear c12b1
  try clear hcz11_0
  try clear hcz11_1
  try clear hcz11_2
  try clear hcz11_3
  try clear hcz11_4
  try clear hcz13_0
  try clear hcz13_1
  try clear hcz13_2
  try clear hcz13_3
  try clear hcz13_4
  try clear hcz15_0
  try clear hcz15_1
  try clear hcz15_2
  try clear hcz15_3
  try clear hcz15_4
  try clear hcz16_0
  try clear hcz16_1
  try clear hcz16_2
  try clear hcz16_3
  try clear hcz16_4
  try clear hcz18_0
  try clear hcz18_1
  try clear hcz18_2
  try clear hcz18_3
  try clear hcz18_4
  try clear hcz6_0
  try clear hcz6_1
  try clear hcz6_2
  try clear hcz6_3
  try clear hcz6_4
  try clear hcz9_0
  try clear hcz9_1
  try clear hcz9_2
  try clear hcz9_3
  try clear hcz9_4
  obtain ⟨kq, x3_1, rfl, HA, HJ1, BK217, HB⟩ := hcut
  cases kq with
  | zero => exact absurd HA.out (by simp [check_most.j0])
  | succ kj1 =>
   have H := HA.out
   clear HA
   simp only [check_most.j0] at H
   by_cases c19 : x3_1 = true
   rotate_left
   ·
    replace c19 := Bool.eq_false_iff.mpr c19
    subst c19
    have H1 : (if a0_0 = 8 then (if a0_1.toList = ([110, 117, 109] : List UInt8) then (some 2) else (if a0_1.toList = ([108, 101, 116] : List UInt8) then (some 2) else (some 4))) else (some 4)) = some r := by rw [if_neg (show ¬ (false = true) by decide)] at H; exact H
    clear H
    have H := H1
    clear H1
    by_cases c20 : a0_0 = 8
    rotate_left
    ·
     rw [if_neg c20] at H
     have c20b0 : (a0_0 == 8) = false := beq_eq_false_iff_ne.mpr c20
     have c20b1 : (a0_0 != 8) = true := bne_iff_ne.mpr c20
     obtain rfl := oI H
     have hcz26_0 : wc.cell? ⟨gb217, 0, none⟩ = some (.int .i64 a0_0) := (kCe BK217.out 0).trans rfl
     have hcz26_1 : wc.cell? ⟨gb217, 1, none⟩ = some (.string a0_1) := (kCe BK217.out 1).trans rfl
     have hcz26_2 : wc.cell? ⟨gb217, 2, none⟩ = some (.string a0_2) := (kCe BK217.out 2).trans rfl
     have hcz26_3 : wc.cell? ⟨gb217, 3, none⟩ = some (.int .i64 a0_3) := (kCe BK217.out 3).trans rfl
     have hcz26_4 : wc.cell? ⟨gb217, 4, none⟩ = some (.int .i64 a0_4) := (kCe BK217.out 4).trans rfl
     go_wp2
     go_ret
     exact ⟨by first | rfl | (simp [eWn, eWs] <;> rfl) | (simp [*, eWn, eWs] <;> rfl), by repeat (first | (with_reducible first | exact HB.out | apply bAl | apply pbD | apply bD1 | refine bSt ?_ GE217.out) | exact HB.out)⟩
    rw [if_pos c20] at H
    have c20b0 : (a0_0 == 8) = true := beq_iff_eq.mpr c20
    have c20b1 : (a0_0 != 8) = false := bne_eq_false_iff_eq.mpr c20
    clear c20
    by_cases c21 : a0_1.toList = ([110, 117, 109] : List UInt8)
    rotate_left
    ·
     rw [if_neg c21] at H
     have c21b0 : (a0_1.toList == ([110, 117, 109] : List UInt8)) = false := beq_eq_false_iff_ne.mpr c21
     have c21b1 : (a0_1.toList != ([110, 117, 109] : List UInt8)) = true := bne_iff_ne.mpr c21
     by_cases c23 : a0_1.toList = ([108, 101, 116] : List UInt8)
     rotate_left
     ·
      rw [if_neg c23] at H
      have c23b0 : (a0_1.toList == ([108, 101, 116] : List UInt8)) = false := beq_eq_false_iff_ne.mpr c23
      have c23b1 : (a0_1.toList != ([108, 101, 116] : List UInt8)) = true := bne_iff_ne.mpr c23
      obtain rfl := oI H
      have hcz25_0 : wc.cell? ⟨gb217, 0, none⟩ = some (.int .i64 a0_0) := (kCe BK217.out 0).trans rfl
      have hcz25_1 : wc.cell? ⟨gb217, 1, none⟩ = some (.string a0_1) := (kCe BK217.out 1).trans rfl
      have hcz25_2 : wc.cell? ⟨gb217, 2, none⟩ = some (.string a0_2) := (kCe BK217.out 2).trans rfl
      have hcz25_3 : wc.cell? ⟨gb217, 3, none⟩ = some (.int .i64 a0_3) := (kCe BK217.out 3).trans rfl
      have hcz25_4 : wc.cell? ⟨gb217, 4, none⟩ = some (.int .i64 a0_4) := (kCe BK217.out 4).trans rfl
      go_wp2
      go_ret
      exact ⟨by first | rfl | (simp [eWn, eWs] <;> rfl) | (simp [*, eWn, eWs] <;> rfl), by repeat (first | (with_reducible first | exact HB.out | apply bAl | apply pbD | apply bD1 | refine bSt ?_ GE217.out) | exact HB.out)⟩
     rw [if_pos c23] at H
     have c23b0 : (a0_1.toList == ([108, 101, 116] : List UInt8)) = true := beq_iff_eq.mpr c23
     have c23b1 : (a0_1.toList != ([108, 101, 116] : List UInt8)) = false := bne_eq_false_iff_eq.mpr c23
     clear c23
     obtain rfl := oI H
     have hcz24_0 : wc.cell? ⟨gb217, 0, none⟩ = some (.int .i64 a0_0) := (kCe BK217.out 0).trans rfl
     have hcz24_1 : wc.cell? ⟨gb217, 1, none⟩ = some (.string a0_1) := (kCe BK217.out 1).trans rfl
     have hcz24_2 : wc.cell? ⟨gb217, 2, none⟩ = some (.string a0_2) := (kCe BK217.out 2).trans rfl
     have hcz24_3 : wc.cell? ⟨gb217, 3, none⟩ = some (.int .i64 a0_3) := (kCe BK217.out 3).trans rfl
     have hcz24_4 : wc.cell? ⟨gb217, 4, none⟩ = some (.int .i64 a0_4) := (kCe BK217.out 4).trans rfl
     go_wp2
     go_ret
     exact ⟨by first | rfl | (simp [eWn, eWs] <;> rfl) | (simp [*, eWn, eWs] <;> rfl), by repeat (first | (with_reducible first | exact HB.out | apply bAl | apply pbD | apply bD1 | refine bSt ?_ GE217.out) | exact HB.out)⟩
    rw [if_pos c21] at H
    have c21b0 : (a0_1.toList == ([110, 117, 109] : List UInt8)) = true := beq_iff_eq.mpr c21
    have c21b1 : (a0_1.toList != ([110, 117, 109] : List UInt8)) = false := bne_eq_false_iff_eq.mpr c21
    clear c21
    obtain rfl := oI H
    have hcz22_0 : wc.cell? ⟨gb217, 0, none⟩ = some (.int .i64 a0_0) := (kCe BK217.out 0).trans rfl
    have hcz22_1 : wc.cell? ⟨gb217, 1, none⟩ = some (.string a0_1) := (kCe BK217.out 1).trans rfl
    have hcz22_2 : wc.cell? ⟨gb217, 2, none⟩ = some (.string a0_2) := (kCe BK217.out 2).trans rfl
    have hcz22_3 : wc.cell? ⟨gb217, 3, none⟩ = some (.int .i64 a0_3) := (kCe BK217.out 3).trans rfl
    have hcz22_4 : wc.cell? ⟨gb217, 4, none⟩ = some (.int .i64 a0_4) := (kCe BK217.out 4).trans rfl
    go_wp2
    go_ret
    exact ⟨by first | rfl | (simp [eWn, eWs] <;> rfl) | (simp [*, eWn, eWs] <;> rfl), by repeat (first | (with_reducible first | exact HB.out | apply bAl | apply pbD | apply bD1 | refine bSt ?_ GE217.out) | exact HB.out)⟩
   subst c19
   have H1 : (some 1) = some r := by rw [if_pos rfl] at H; exact H
   clear H
   have H := H1
   clear H1
   obtain rfl := oI H
   go_wp2
   go_ret
   exact ⟨by first | rfl | (simp [eWn, eWs] <;> rfl) | (simp [*, eWn, eWs] <;> rfl), by repeat (first | (with_reducible first | exact HB.out | apply bAl | apply pbD | apply bD1 | refine bSt ?_ GE217.out) | exact HB.out)⟩
def check_Alone.f (k : Nat) (a0_0 : Int) (a0_1 : ByteArray) (a0_2 : ByteArray) (a0_3 : Int) (a0_4 : Int) : Option (Bool) := (rules_May.f k a0_0 a0_1 a0_2 a0_3 a0_4).bind fun t220 => (if t220 = true then ((check_most.f k a0_0 a0_1 a0_2 a0_3 a0_4).bind fun t221 => (some (decide ((a0_2.size : Int) ≤ t221)))) else (some false))
def check_Alone.T1 : Bool × List (List Nat × List Nat) := (true, [([], []), ([0], [0]), ([1, 1], [1]), ([2], [2]), ([3, 2], [2, 3]), ([4, 2], [2, 4]), ([2], [2]), ([6, 2, 2], [2, 6]), ([5, 7, 2], [2, 5, 7]), ([2, 8], [2, 8]), ([9, 7, 0, 1, 2, 3, 4, 5, 6, 7, 8, 9], [9])])
def check_Alone.B1 : List Nat := [0, 1, 3, 7, 15, 31, 7, 71, 255, 511, 1023]
theorem check_Alone.tab1 : rtab .any (opsOf Try.f41 1) = check_Alone.T1 := by kernel_rfl
theorem check_Alone.bits1 : waitsOk check_Alone.T1.2 check_Alone.B1 = true := by kernel_rfl
theorem check_Alone.calls (k : Nat) (a0_0 : Int) (a0_1 : ByteArray) (a0_2 : ByteArray) (a0_3 : Int) (a0_4 : Int) (r : Bool) (w : World) (h : check_Alone.f k a0_0 a0_1 a0_2 a0_3 a0_4 = some r) :
  Calls Try.prog 41 #[.agg #[.int .i64 a0_0, .string a0_1, .string a0_2, .int .i64 a0_3, .int .i64 a0_4]] w fun e w' => e = .returned (.bool r) ∧ Below w.heap.size w w' := by
 have hu33 := Try.underlying33
 have HB := aK (Below.refl w.heap.size w)
 have H : ((rules_May.f k a0_0 a0_1 a0_2 a0_3 a0_4).bind fun t220 => (if t220 = true then ((check_most.f k a0_0 a0_1 a0_2 a0_3 a0_4).bind fun t221 => (some (decide ((a0_2.size : Int) ≤ t221)))) else (some false))) = some r := h
 clear h
 replace H := oB H
 obtain ⟨t220, A20, H⟩ := H
 try dsimp only at H
 have A2 := aK A20
 clear A20
 by_cases c3 : t220 = true
 rotate_left
 ·
  replace c3 := Bool.eq_false_iff.mpr c3
  subst c3
  have H1 : (some false) = some r := by rw [if_neg (show ¬ (false = true) by decide)] at H; exact H
  clear H
  have H := H1
  clear H1
  obtain rfl := oI H
  go_enter Try.func41, Try.ntmps41
  try go_wp2_with (first | ((with_reducible refine gate_dst (N := 1) rfl ?_); (try (refine gate_guard (by rfl) ?_; dsimp only)); refine box_event ?hg (N := 1) ?hd (cs := #[.int .i64 a0_0, .string a0_1, .string a0_2, .int .i64 a0_3, .int .i64 a0_4]) (t := 33) ?hr ?_; (case hd => rfl); (case hg => rfl); (case hr => first | (go_simp; done) | (go_simp; rfl)); intro gb219 hg w9 hbox hb; have n0_ := aK (bSp (by repeat (first | (with_reducible first | exact HB.out | apply bAl | apply pbD | apply bD1) | exact HB.out)) hb); have n1_ := aK (hbox); have n2_ := aK ((by rw [hg]; exact (bSz (by repeat (first | (with_reducible first | exact HB.out | apply bAl | apply pbD | apply bD1) | exact HB.out))) : w.heap.size ≤ gb219)); have n3_ := aK ((by rw [hg]; exact (bSz (by repeat (first | (with_reducible first | exact HB.out | apply bAl | apply pbD | apply bD1) | exact HB.out))) : w.heap.size ≤ gb219)); clear HB; have HB := n0_; have BK219 := n1_; have GW219 := n2_; have GE219 := n3_; clear n0_ n1_ n2_ n3_; clear hb hbox hg))
  have n0_ := aK (kDr BK219.out)
  have n1_ := aK (bD1 HB.out)
  clear BK219
  clear HB
  have BK219 := n0_
  have HB := n1_
  clear n0_ n1_
  refine start_ (n := 11) (S := fun w' => w'.cell? ⟨gb219, 0, none⟩ = some (.int .i64 a0_0) ∧ w'.cell? ⟨gb219, 1, none⟩ = some (.string a0_1) ∧ w'.cell? ⟨gb219, 2, none⟩ = some (.string a0_2) ∧ w'.cell? ⟨gb219, 3, none⟩ = some (.int .i64 a0_3) ∧ w'.cell? ⟨gb219, 4, none⟩ = some (.int .i64 a0_4)) (ds := []) (bl 11 0) (by kernel_rfl) rfl (by kernel_rfl) ⟨(kCe BK219.out 0).trans rfl, (kCe BK219.out 1).trans rfl, (kCe BK219.out 2).trans rfl, (kCe BK219.out 3).trans rfl, (kCe BK219.out 4).trans rfl⟩ (fun hHeld => ?_); refine with_tabW check_Alone.tab1 check_Alone.bits1 (fun HT_ HW_ => ?_)
  generalize w9.drew = w10 at BK219 HB hHeld ⊢
  refine tV 0 3 (bl 11 1) HT_.out HW_.out hHeld ?_ (hv := by rintro w' ⟨s0, s1, s2, s3, s4⟩; go_simp; with_reducible rfl)
  refine one_ (i := 1) (N := some 4) (bl 11 3) rfl rfl (one_of HT_.out (by kernel_rfl)) (by decide) (fun K hK => ?_)
  refine goes_ Try.func61 (by kernel_rfl) rfl #[.agg #[.int .i64 a0_0, .string a0_1, .string a0_2, .int .i64 a0_3, .int .i64 a0_4]] (by rfl) rfl rfl (by (try simp only [qM0, qM1, qM2]); first | done | rfl | (simp only [qD0, qD1]; rfl)) ?_
  with_reducible refine (rules_May.calls k a0_0 a0_1 a0_2 a0_3 a0_4 false _ A2.out).mono ?_
  rintro e w11 ⟨rfl, hb⟩
  refine ⟨_, rfl, ?_⟩
  have n0_ := aK (kBe (g := gb219) (o := .cells #[.int .i64 a0_0, .string a0_1, .string a0_2, .int .i64 a0_3, .int .i64 a0_4] 33 (0, 0)) (by (with_reducible repeat (first | refine kDN ?_ _ | refine kDr ?_ | refine kAl ?_ _)); exact BK219.out) hb)
  have n1_ := aK (bSp (by repeat (first | (with_reducible first | exact HB.out | apply bAl | apply pbD | apply bD1 | refine bSt ?_ GE219.out) | exact HB.out)) hb)
  clear BK219
  clear HB
  have BK219 := n0_
  have HB := n1_
  clear n0_ n1_
  (try clear hb)
  (try clear hb2)
  (try clear hk)
  (try clear hi)
  refine hK.out _ _ ⟨(kCe BK219.out 0).trans rfl, (kCe BK219.out 1).trans rfl, (kCe BK219.out 2).trans rfl, (kCe BK219.out 3).trans rfl, (kCe BK219.out 4).trans rfl⟩ (fun hHeld => ?_)
  clear hK K
  refine norm_ (a' := ?_) ?_ ?_
  rotate_left
  ·
   show Act.put _ (some 4) _ = _
   simp only [Act.put, qSa, qS0, qS1, i64_w, i32_w]
   rfl
  refine pV 2 5 (bl 11 7) HT_.out ?_
  refine pU 3 6 (bl 11 15) HT_.out ?_
  refine pU 4 7 (bl 11 31) HT_.out ?_
  refine pU 5 8 (bl 11 63) HT_.out ?_
  refine pU 6 9 (bl 11 127) HT_.out ?_
  refine pU 7 10 (bl 11 255) HT_.out ?_
  refine pU 8 11 (bl 11 511) HT_.out ?_
  refine pV 9 12 (bl 11 1023) HT_.out ?_
  refine pV 10 2 (bl 11 2047) HT_.out ?_
  refine done_ (done_of HT_.out (by kernel_rfl)) ?_
  try go_wp2
  go_ret
  exact ⟨by first | rfl | (simp [eWn, eWs] <;> rfl) | (simp [*, eWn, eWs] <;> rfl), by repeat (first | (with_reducible first | exact HB.out | apply bAl | apply pbD | apply bD1 | refine bSt ?_ GE219.out) | exact HB.out)⟩
 subst c3
 have H1 : ((check_most.f k a0_0 a0_1 a0_2 a0_3 a0_4).bind fun t221 => (some (decide ((a0_2.size : Int) ≤ t221)))) = some r := by rw [if_pos rfl] at H; exact H
 clear H
 have H := H1
 clear H1
 replace H := oB H
 obtain ⟨t221, A40, H⟩ := H
 replace H : (some (decide ((a0_2.size : Int) ≤ t221))) = some r := H
 have A4 := aK A40
 clear A40
 obtain rfl := oI H
 go_enter Try.func41, Try.ntmps41
 try go_wp2_with (first | ((with_reducible refine gate_dst (N := 1) rfl ?_); (try (refine gate_guard (by rfl) ?_; dsimp only)); refine box_event ?hg (N := 1) ?hd (cs := #[.int .i64 a0_0, .string a0_1, .string a0_2, .int .i64 a0_3, .int .i64 a0_4]) (t := 33) ?hr ?_; (case hd => rfl); (case hg => rfl); (case hr => first | (go_simp; done) | (go_simp; rfl)); intro gb219 hg w5 hbox hb; have n0_ := aK (bSp (by repeat (first | (with_reducible first | exact HB.out | apply bAl | apply pbD | apply bD1) | exact HB.out)) hb); have n1_ := aK (hbox); have n2_ := aK ((by rw [hg]; exact (bSz (by repeat (first | (with_reducible first | exact HB.out | apply bAl | apply pbD | apply bD1) | exact HB.out))) : w.heap.size ≤ gb219)); have n3_ := aK ((by rw [hg]; exact (bSz (by repeat (first | (with_reducible first | exact HB.out | apply bAl | apply pbD | apply bD1) | exact HB.out))) : w.heap.size ≤ gb219)); clear HB; have HB := n0_; have BK219 := n1_; have GW219 := n2_; have GE219 := n3_; clear n0_ n1_ n2_ n3_; clear hb hbox hg))
 have n0_ := aK (kDr BK219.out)
 have n1_ := aK (bD1 HB.out)
 clear BK219
 clear HB
 have BK219 := n0_
 have HB := n1_
 clear n0_ n1_
 refine start_ (n := 11) (S := fun w' => w'.cell? ⟨gb219, 0, none⟩ = some (.int .i64 a0_0) ∧ w'.cell? ⟨gb219, 1, none⟩ = some (.string a0_1) ∧ w'.cell? ⟨gb219, 2, none⟩ = some (.string a0_2) ∧ w'.cell? ⟨gb219, 3, none⟩ = some (.int .i64 a0_3) ∧ w'.cell? ⟨gb219, 4, none⟩ = some (.int .i64 a0_4)) (ds := []) (bl 11 0) (by kernel_rfl) rfl (by kernel_rfl) ⟨(kCe BK219.out 0).trans rfl, (kCe BK219.out 1).trans rfl, (kCe BK219.out 2).trans rfl, (kCe BK219.out 3).trans rfl, (kCe BK219.out 4).trans rfl⟩ (fun hHeld => ?_); refine with_tabW check_Alone.tab1 check_Alone.bits1 (fun HT_ HW_ => ?_)
 generalize w5.drew = w6 at BK219 HB hHeld ⊢
 refine tV 0 3 (bl 11 1) HT_.out HW_.out hHeld ?_ (hv := by rintro w' ⟨s0, s1, s2, s3, s4⟩; go_simp; with_reducible rfl)
 refine one_ (i := 1) (N := some 4) (bl 11 3) rfl rfl (one_of HT_.out (by kernel_rfl)) (by decide) (fun K hK => ?_)
 refine goes_ Try.func61 (by kernel_rfl) rfl #[.agg #[.int .i64 a0_0, .string a0_1, .string a0_2, .int .i64 a0_3, .int .i64 a0_4]] (by rfl) rfl rfl (by (try simp only [qM0, qM1, qM2]); first | done | rfl | (simp only [qD0, qD1]; rfl)) ?_
 with_reducible refine (rules_May.calls k a0_0 a0_1 a0_2 a0_3 a0_4 true _ A2.out).mono ?_
 rintro e w7 ⟨rfl, hb⟩
 refine ⟨_, rfl, ?_⟩
 have n0_ := aK (kBe (g := gb219) (o := .cells #[.int .i64 a0_0, .string a0_1, .string a0_2, .int .i64 a0_3, .int .i64 a0_4] 33 (0, 0)) (by (with_reducible repeat (first | refine kDN ?_ _ | refine kDr ?_ | refine kAl ?_ _)); exact BK219.out) hb)
 have n1_ := aK (bSp (by repeat (first | (with_reducible first | exact HB.out | apply bAl | apply pbD | apply bD1 | refine bSt ?_ GE219.out) | exact HB.out)) hb)
 clear BK219
 clear HB
 have BK219 := n0_
 have HB := n1_
 clear n0_ n1_
 (try clear hb)
 (try clear hb2)
 (try clear hk)
 (try clear hi)
 refine hK.out _ _ ⟨(kCe BK219.out 0).trans rfl, (kCe BK219.out 1).trans rfl, (kCe BK219.out 2).trans rfl, (kCe BK219.out 3).trans rfl, (kCe BK219.out 4).trans rfl⟩ (fun hHeld => ?_)
 clear hK K
 refine norm_ (a' := ?_) ?_ ?_
 rotate_left
 ·
  show Act.put _ (some 4) _ = _
  simp only [Act.put, qSa, qS0, qS1, i64_w, i32_w]
  rfl
 refine pV 2 5 (bl 11 7) HT_.out ?_
 refine pV 3 6 (bl 11 15) HT_.out ?_
 refine tV 4 7 (bl 11 31) HT_.out HW_.out hHeld ?_ (hv := by rintro w' ⟨s0, s1, s2, s3, s4⟩; go_simp; with_reducible rfl)
 refine pV 5 8 (bl 11 63) HT_.out ?_
 refine tV 6 9 (bl 11 127) HT_.out HW_.out hHeld ?_ (hv := by rintro w' ⟨s0, s1, s2, s3, s4⟩; go_simp; with_reducible rfl)
 refine one_ (i := 7) (N := some 10) (bl 11 255) rfl rfl (one_of HT_.out (by kernel_rfl)) (by decide) (fun K hK => ?_)
 refine goes_ Try.func62 (by kernel_rfl) rfl #[.agg #[.int .i64 a0_0, .string a0_1, .string a0_2, .int .i64 a0_3, .int .i64 a0_4]] (by rfl) rfl rfl (by (try simp only [qM0, qM1, qM2]); first | done | rfl | (simp only [qD0, qD1]; rfl)) ?_
 with_reducible refine (check_most.calls k a0_0 a0_1 a0_2 a0_3 a0_4 t221 _ A4.out).mono ?_
 rintro e w8 ⟨rfl, hb⟩
 refine ⟨_, rfl, ?_⟩
 have n0_ := aK (kBe (g := gb219) (o := .cells #[.int .i64 a0_0, .string a0_1, .string a0_2, .int .i64 a0_3, .int .i64 a0_4] 33 (0, 0)) (by (with_reducible repeat (first | refine kDN ?_ _ | refine kDr ?_ | refine kAl ?_ _)); exact BK219.out) hb)
 have n1_ := aK (bSp (by repeat (first | (with_reducible first | exact HB.out | apply bAl | apply pbD | apply bD1 | refine bSt ?_ GE219.out) | exact HB.out)) hb)
 clear BK219
 clear HB
 have BK219 := n0_
 have HB := n1_
 clear n0_ n1_
 (try clear hb)
 (try clear hb2)
 (try clear hk)
 (try clear hi)
 refine hK.out _ _ ⟨(kCe BK219.out 0).trans rfl, (kCe BK219.out 1).trans rfl, (kCe BK219.out 2).trans rfl, (kCe BK219.out 3).trans rfl, (kCe BK219.out 4).trans rfl⟩ (fun hHeld => ?_)
 clear hK K
 refine norm_ (a' := ?_) ?_ ?_
 rotate_left
 ·
  show Act.put _ (some 10) _ = _
  simp only [Act.put, qSa, qS0, qS1, i64_w, i32_w]
  rfl
 refine pV 8 11 (bl 11 511) HT_.out ?_
 refine pV 9 12 (bl 11 1023) HT_.out ?_
 refine pV 10 2 (bl 11 2047) HT_.out ?_
 refine done_ (done_of HT_.out (by kernel_rfl)) ?_
 try go_wp2
 go_ret
 exact ⟨by first | rfl | (simp [eWn, eWs] <;> rfl) | (simp [*, eWn, eWs] <;> rfl), by repeat (first | (with_reducible first | exact HB.out | apply bAl | apply pbD | apply bD1 | refine bSt ?_ GE219.out) | exact HB.out)⟩
def check_begins.f (a0 : ByteArray) (a1 : ByteArray) : Option (Bool) := (strings_HasPrefix.f a0 a1).bind fun t222 => (if t222 = true then (some true) else ((strings_HasPrefix.f a1 a0).bind fun t223 => (some t223)))
theorem check_begins.calls (a0 : ByteArray) (a1 : ByteArray) (r : Bool) (w : World) (h : check_begins.f a0 a1 = some r) :
  Calls Try.prog 64 #[.string a0, .string a1] w fun e w' => e = .returned (.bool r) ∧ Drawn0 w w' := by
 have H : ((strings_HasPrefix.f a0 a1).bind fun t222 => (if t222 = true then (some true) else ((strings_HasPrefix.f a1 a0).bind fun t223 => (some t223)))) = some r := h
 clear h
 replace H := oB H
 obtain ⟨t222, A30, H⟩ := H
 try dsimp only at H
 have A3 := aK A30
 clear A30
 by_cases c4 : t222 = true
 rotate_left
 ·
  replace c4 := Bool.eq_false_iff.mpr c4
  subst c4
  have H1 : ((strings_HasPrefix.f a1 a0).bind fun t223 => (some t223)) = some r := by rw [if_neg (show ¬ (false = true) by decide)] at H; exact H
  clear H
  have H := H1
  clear H1
  replace H := oB H
  obtain ⟨t223, A50, H⟩ := H
  replace H : (some t223) = some r := H
  have A5 := aK A50
  clear A50
  obtain rfl := oI H
  go_enter Try.func64, Try.ntmps64
  go_wp2_with (first | ((with_reducible refine gate_callee (f := 83) rfl ?_); refine goesL_ (some 7) rfl rfl Try.func83 (by kernel_rfl) rfl #[.string a0, .string a1] rfl (by (try simp only [qM0, qM1, qM2]); first | done | rfl | (simp only [qD0, qD1]; rfl)) ?_; (with_reducible refine (strings_HasPrefix.calls a0 a1 false _ A3.out).mono ?_); rintro e w' ⟨rfl, ⟨nd, rfl⟩⟩; refine ⟨_, rfl, ?_⟩) | (go_at_call 83; (with_reducible refine (strings_HasPrefix.calls a1 a0 t223 _ A5.out).mono ?_); rintro e w' ⟨rfl, ⟨nd, rfl⟩⟩))
  go_ret
  exact ⟨by first | rfl | (simp; done) | (simp [*]; done), by repeat (first | exact Drawn0.refl _ | apply Drawn0.step)⟩
 subst c4
 have H1 : (some true) = some r := by rw [if_pos rfl] at H; exact H
 clear H
 have H := H1
 clear H1
 obtain rfl := oI H
 go_enter Try.func64, Try.ntmps64
 go_wp2_with (first | ((with_reducible refine gate_callee (f := 83) rfl ?_); refine goesL_ (some 7) rfl rfl Try.func83 (by kernel_rfl) rfl #[.string a0, .string a1] rfl (by (try simp only [qM0, qM1, qM2]); first | done | rfl | (simp only [qD0, qD1]; rfl)) ?_; (with_reducible refine (strings_HasPrefix.calls a0 a1 true _ A3.out).mono ?_); rintro e w' ⟨rfl, ⟨nd, rfl⟩⟩; refine ⟨_, rfl, ?_⟩))
 go_ret
 exact ⟨by first | rfl | (simp; done) | (simp [*]; done), by repeat (first | exact Drawn0.refl _ | apply Drawn0.step)⟩
end Go.Proofs.Ytbpbniemjjhecaa.PChk
