-- Written by a program of this session (prt.py), out of the translation. Lean checks it.
import Derived.Test.YtgjkjoocnkdckaaZPChk0
import Derived.Test.YtgjkjoocnkdckaaZPChk2
import Derived.Test.YtgjkjoocnkdckaaZPChk4
namespace Go.Proofs.Ytgjkjoocnkdckaa.PChk
open Go.RowKit Go.Proofs.Ytgjkjoocnkdckaa.G Go.Proofs.YtgjkjoocnkdckaaW.PrintWords Go.Proofs.YtgjkjoocnkdckaaW.PrintLast Go.Proofs.YtgjkjoocnkdckaaW.PrintMore
attribute [local go_sem] max2_int min2_int max_two min_two max_three min_three max_four min_four   -- for this text's walks alone
set_option linter.unusedVariables false
set_option linter.unusedSimpArgs false
abbrev z5_0 : Array Bool := #[false, false, false, false, false, false, false, false, false, false, false]
abbrev z5_1 : Array Bool := #[true, false, false, false, false, false, false, false, false, false, false]
abbrev z5_2 : Array Bool := #[true, true, false, false, false, false, false, false, false, false, false]
abbrev z5_3 : Array Bool := #[true, true, true, false, false, false, false, false, false, false, false]
abbrev z5_4 : Array Bool := #[true, true, true, true, false, false, false, false, false, false, false]
abbrev z5_5 : Array Bool := #[true, true, true, true, true, false, false, false, false, false, false]
abbrev z5_6 : Array Bool := #[true, true, true, true, true, true, false, false, false, false, false]
abbrev z5_7 : Array Bool := #[true, true, true, true, true, true, true, false, false, false, false]
abbrev z5_8 : Array Bool := #[true, true, true, true, true, true, true, true, false, false, false]
abbrev z5_9 : Array Bool := #[true, true, true, true, true, true, true, true, true, false, false]
abbrev z5_10 : Array Bool := #[true, true, true, true, true, true, true, true, true, true, false]
abbrev z5_11 : Array Bool := #[true, true, true, true, true, true, true, true, true, true, true]
def check_most.j0 : Nat → Bool → Int → ByteArray → ByteArray → Int → Int → Option (Int)
 | 0, _, _, _, _, _, _ => none
 | k + 1, x3, x162000, x162001, x162002, x162003, x162004 => if x3 = true then (some 1) else (if x162000 = 8 then (if x162001.toList = ([110, 117, 109] : List UInt8) then (some 2) else (if x162001.toList = ([108, 101, 116] : List UInt8) then (some 2) else (some 4))) else (some 4))
def check_most.f (k : Nat) (a0_0 : Int) (a0_1 : ByteArray) (a0_2 : ByteArray) (a0_3 : Int) (a0_4 : Int) : Option (Int) := (check_kept.f a0_0 a0_1 a0_2 a0_3 a0_4).bind fun t162 => (if t162 = true then (check_most.j0 k true a0_0 a0_1 a0_2 a0_3 a0_4) else (if a0_0 = 7 then (check_most.j0 k true a0_0 a0_1 a0_2 a0_3 a0_4) else (if a0_0 = 1 then (check_most.j0 k ((a0_1.size : Int) == 1) a0_0 a0_1 a0_2 a0_3 a0_4) else (check_most.j0 k false a0_0 a0_1 a0_2 a0_3 a0_4))))
theorem check_most.mono_l : ∀ k, (∀ y0 y1 y2 y3 y4 y5, LeO (check_most.j0 k y0 y1 y2 y3 y4 y5) (check_most.j0 (k + 1) y0 y1 y2 y3 y4 y5))
 | 0 => fun _ _ _ _ _ _ r h => by simp [check_most.j0] at h
 | k + 1 => by
  have ih0 := check_most.mono_l k
  ·
   intro y0 y1 y2 y3 y4 y5
   unfold check_most.j0
   repeat' first
   | (with_reducible exact ih0 _ _ _ _ _ _)
   | (with_reducible exact LeO.refl _)
   | (with_reducible exact LeO.none _)
   | (with_reducible refine LeO.ite ?_ ?_)
   | (with_reducible refine LeO.bind ?_ (fun _ => ?_))
   | exact ih0 _ _ _ _ _ _
   | exact LeO.none _
   | refine LeO.ite ?_ ?_
   | refine LeO.bind ?_ (fun _ => ?_)
theorem check_most.mono : ∀ a0 a1 a2 a3 a4 k, LeO (check_most.f k a0 a1 a2 a3 a4) (check_most.f (k + 1) a0 a1 a2 a3 a4) := by
 intro a0 a1 a2 a3 a4 k
 have ih0 := check_most.mono_l k
 unfold check_most.f
 repeat' first
   | (with_reducible exact ih0 _ _ _ _ _ _)
   | (with_reducible exact LeO.refl _)
   | (with_reducible exact LeO.none _)
   | (with_reducible refine LeO.ite ?_ ?_)
   | (with_reducible refine LeO.bind ?_ (fun _ => ?_))
   | exact ih0 _ _ _ _ _ _
   | exact LeO.none _
   | refine LeO.ite ?_ ?_
   | refine LeO.bind ?_ (fun _ => ?_)
set_option maxHeartbeats 8000000 in
set_option maxRecDepth 100000 in
theorem check_most.calls (k : Nat) (a0_0 : Int) (a0_1 : ByteArray) (a0_2 : ByteArray) (a0_3 : Int) (a0_4 : Int) (r : Int) (w : World) (h : check_most.f k a0_0 a0_1 a0_2 a0_3 a0_4 = some r) :
  Calls Try.prog 29 #[.agg #[.int .i64 a0_0, .string a0_1, .string a0_2, .int .i64 a0_3, .int .i64 a0_4]] w fun e w' => e = .returned (.int .i64 r) ∧ Below w.heap.size w w' := by
 have hu23 := Try.underlying23
 have HB := aK (Below.refl w.heap.size w)
 have H : ((check_kept.f a0_0 a0_1 a0_2 a0_3 a0_4).bind fun t162 => (if t162 = true then (check_most.j0 k true a0_0 a0_1 a0_2 a0_3 a0_4) else (if a0_0 = 7 then (check_most.j0 k true a0_0 a0_1 a0_2 a0_3 a0_4) else (if a0_0 = 1 then (check_most.j0 k ((a0_1.size : Int) == 1) a0_0 a0_1 a0_2 a0_3 a0_4) else (check_most.j0 k false a0_0 a0_1 a0_2 a0_3 a0_4))))) = some r := h
 clear h
 have HC2 := aK H
 clear H
 go_enter Try.func29, Try.ntmps29
 go_upto_region 1 with (first | ((with_reducible refine gate_dst (N := 1) rfl ?_); (try (refine gate_guard (by rfl) ?_; dsimp only)); refine box_event ?hg (N := 1) ?hd (cs := #[.int .i64 a0_0, .string a0_1, .string a0_2, .int .i64 a0_3, .int .i64 a0_4]) (t := 23) ?hr ?_; (case hd => rfl); (case hg => rfl); (case hr => first | (go_simp; done) | (go_simp; rfl)); intro gb161 hg w3 hbox hb; have n0_ := aK (bSp (by repeat (first | (with_reducible first | exact HB.out | apply bAl | apply pbD | apply bD1) | exact HB.out)) hb); have n1_ := aK (hbox); have n2_ := aK ((by rw [hg]; exact (bSz (by repeat (first | (with_reducible first | exact HB.out | apply bAl | apply pbD | apply bD1) | exact HB.out))) : w.heap.size ≤ gb161)); have n3_ := aK ((by rw [hg]; exact (bSz (by repeat (first | (with_reducible first | exact HB.out | apply bAl | apply pbD | apply bD1) | exact HB.out))) : w.heap.size ≤ gb161)); clear HB; have HB := n0_; have BK161 := n1_; have GW161 := n2_; have GE161 := n3_; clear n0_ n1_ n2_ n3_; clear hb hbox hg))
 (try simp only [Act.put, qSa, qS0, qS1])
 go_cut [3] (fun v3 wc => ∃ (kq : Nat) (x3_1 : Bool), v3 = .bool x3_1 ∧ Aside0 (check_most.j0 kq x3_1 a0_0 a0_1 a0_2 a0_3 a0_4 = some r) ∧ Aside0 (kq ≤ k) ∧ Aside0 (wc.heap[gb161]? = some (.cells #[.int .i64 a0_0, .string a0_1, .string a0_2, .int .i64 a0_3, .int .i64 a0_4] 23 (0, 0))) ∧ Aside0 (Below w.heap.size w wc))
 case first =>
  have H := HC2.out
  clear HC2
  replace H := oB H
  obtain ⟨t162, A40, H⟩ := H
  try dsimp only at H
  have A4 := aK A40
  clear A40
  by_cases c5 : t162 = true
  ·
   subst c5
   have H1 : (check_most.j0 k true a0_0 a0_1 a0_2 a0_3 a0_4) = some r := by rw [if_pos rfl] at H; exact H
   clear H
   have H := H1
   clear H1
   have H' := aK H
   clear H
   have hcz6_0 : w3.cell? ⟨gb161, 0, none⟩ = some (.int .i64 a0_0) := (kCe BK161.out 0).trans rfl
   have hcz6_1 : w3.cell? ⟨gb161, 1, none⟩ = some (.string a0_1) := (kCe BK161.out 1).trans rfl
   have hcz6_2 : w3.cell? ⟨gb161, 2, none⟩ = some (.string a0_2) := (kCe BK161.out 2).trans rfl
   have hcz6_3 : w3.cell? ⟨gb161, 3, none⟩ = some (.int .i64 a0_3) := (kCe BK161.out 3).trans rfl
   have hcz6_4 : w3.cell? ⟨gb161, 4, none⟩ = some (.int .i64 a0_4) := (kCe BK161.out 4).trans rfl
   have hfz6_0 := bFz BK161.out 0
   have hfz6_1 := bFz BK161.out 1
   have hfz6_2 := bFz BK161.out 2
   have hfz6_3 := bFz BK161.out 3
   have hfz6_4 := bFz BK161.out 4
   go_wp2_with (first | ((with_reducible refine gate_callee (f := 43) rfl ?_); refine goesL_ (some 5) rfl rfl Try.func43 (by kernel_rfl) rfl #[.agg #[.int .i64 a0_0, .string a0_1, .string a0_2, .int .i64 a0_3, .int .i64 a0_4]] rfl (by (try simp only [qM0, qM1, qM2]); first | done | rfl | (simp only [qD0, qD1]; rfl)) ?_; (with_reducible refine (check_kept.calls a0_0 a0_1 a0_2 a0_3 a0_4 true _ A4.out).mono ?_); rintro e w7 ⟨rfl, hb⟩; refine ⟨_, rfl, ?_⟩; have n0_ := aK (kBe (g := gb161) (o := .cells #[.int .i64 a0_0, .string a0_1, .string a0_2, .int .i64 a0_3, .int .i64 a0_4] 23 (0, 0)) (by (with_reducible repeat (first | refine kDN ?_ _ | refine kDr ?_ | refine kAl ?_ _)); exact BK161.out) hb); have n1_ := aK (bSp (by repeat (first | (with_reducible first | exact HB.out | apply bAl | apply pbD | apply bD1 | refine bSt ?_ GE161.out) | exact HB.out)) hb); clear BK161; clear HB; have BK161 := n0_; have HB := n1_; clear n0_ n1_; (try clear hb); (try clear hb2); (try clear hk); (try clear hi)))
   go_meet
   case rel => exact ⟨_, (true), (by first | rfl | (simp; done) | (simp [*]; done)), H', ⟨by first | omega | exact Nat.le_refl _⟩, ⟨by (with_reducible repeat (first | refine kDN ?_ _ | refine kDr ?_ | refine kAl ?_ _)); exact BK161.out⟩, ⟨by repeat (first | (with_reducible first | exact HB.out | apply bAl | apply pbD | apply bD1 | refine bSt ?_ GE161.out) | exact HB.out)⟩⟩
  ·
   replace c5 := Bool.eq_false_iff.mpr c5
   subst c5
   have H1 : (if a0_0 = 7 then (check_most.j0 k true a0_0 a0_1 a0_2 a0_3 a0_4) else (if a0_0 = 1 then (check_most.j0 k ((a0_1.size : Int) == 1) a0_0 a0_1 a0_2 a0_3 a0_4) else (check_most.j0 k false a0_0 a0_1 a0_2 a0_3 a0_4))) = some r := by rw [if_neg (show ¬ (false = true) by decide)] at H; exact H
   clear H
   have H := H1
   clear H1
   by_cases c8 : a0_0 = 7
   ·
    rw [if_pos c8] at H
    have c8b0 : (a0_0 == 7) = true := beq_iff_eq.mpr c8
    have c8b1 : (a0_0 != 7) = false := bne_eq_false_iff_eq.mpr c8
    clear c8
    (first | rw [c8b0] | (simp only [i64_w, i32_w]; rw [c8b0]) | skip)
    have H' := aK H
    clear H
    have hcz9_0 : w3.cell? ⟨gb161, 0, none⟩ = some (.int .i64 a0_0) := (kCe BK161.out 0).trans rfl
    have hcz9_1 : w3.cell? ⟨gb161, 1, none⟩ = some (.string a0_1) := (kCe BK161.out 1).trans rfl
    have hcz9_2 : w3.cell? ⟨gb161, 2, none⟩ = some (.string a0_2) := (kCe BK161.out 2).trans rfl
    have hcz9_3 : w3.cell? ⟨gb161, 3, none⟩ = some (.int .i64 a0_3) := (kCe BK161.out 3).trans rfl
    have hcz9_4 : w3.cell? ⟨gb161, 4, none⟩ = some (.int .i64 a0_4) := (kCe BK161.out 4).trans rfl
    have hfz9_0 := bFz BK161.out 0
    have hfz9_1 := bFz BK161.out 1
    have hfz9_2 := bFz BK161.out 2
    have hfz9_3 := bFz BK161.out 3
    have hfz9_4 := bFz BK161.out 4
    go_wp2_with (first | ((with_reducible refine gate_callee (f := 43) rfl ?_); refine goesL_ (some 5) rfl rfl Try.func43 (by kernel_rfl) rfl #[.agg #[.int .i64 a0_0, .string a0_1, .string a0_2, .int .i64 a0_3, .int .i64 a0_4]] rfl (by (try simp only [qM0, qM1, qM2]); first | done | rfl | (simp only [qD0, qD1]; rfl)) ?_; (with_reducible refine (check_kept.calls a0_0 a0_1 a0_2 a0_3 a0_4 false _ A4.out).mono ?_); rintro e w10 ⟨rfl, hb⟩; refine ⟨_, rfl, ?_⟩; have n0_ := aK (kBe (g := gb161) (o := .cells #[.int .i64 a0_0, .string a0_1, .string a0_2, .int .i64 a0_3, .int .i64 a0_4] 23 (0, 0)) (by (with_reducible repeat (first | refine kDN ?_ _ | refine kDr ?_ | refine kAl ?_ _)); exact BK161.out) hb); have n1_ := aK (bSp (by repeat (first | (with_reducible first | exact HB.out | apply bAl | apply pbD | apply bD1 | refine bSt ?_ GE161.out) | exact HB.out)) hb); clear BK161; clear HB; have BK161 := n0_; have HB := n1_; clear n0_ n1_; (try clear hb); (try clear hb2); (try clear hk); (try clear hi); have hcz11_0 : w10.cell? ⟨gb161, 0, none⟩ = some (.int .i64 a0_0) := (kCe BK161.out 0).trans rfl; have hcz11_1 : w10.cell? ⟨gb161, 1, none⟩ = some (.string a0_1) := (kCe BK161.out 1).trans rfl; have hcz11_2 : w10.cell? ⟨gb161, 2, none⟩ = some (.string a0_2) := (kCe BK161.out 2).trans rfl; have hcz11_3 : w10.cell? ⟨gb161, 3, none⟩ = some (.int .i64 a0_3) := (kCe BK161.out 3).trans rfl; have hcz11_4 : w10.cell? ⟨gb161, 4, none⟩ = some (.int .i64 a0_4) := (kCe BK161.out 4).trans rfl; have hfz11_0 := bFz BK161.out 0; have hfz11_1 := bFz BK161.out 1; have hfz11_2 := bFz BK161.out 2; have hfz11_3 := bFz BK161.out 3; have hfz11_4 := bFz BK161.out 4))
    go_meet
    case rel => exact ⟨_, (true), (by first | rfl | (simp; done) | (simp [*]; done)), H', ⟨by first | omega | exact Nat.le_refl _⟩, ⟨by (with_reducible repeat (first | refine kDN ?_ _ | refine kDr ?_ | refine kAl ?_ _)); exact BK161.out⟩, ⟨by repeat (first | (with_reducible first | exact HB.out | apply bAl | apply pbD | apply bD1 | refine bSt ?_ GE161.out) | exact HB.out)⟩⟩
   ·
    rw [if_neg c8] at H
    have c8b0 : (a0_0 == 7) = false := beq_eq_false_iff_ne.mpr c8
    have c8b1 : (a0_0 != 7) = true := bne_iff_ne.mpr c8
    (first | rw [c8b0] | (simp only [i64_w, i32_w]; rw [c8b0]) | skip)
    by_cases c12 : a0_0 = 1
    ·
     rw [if_pos c12] at H
     have c12b0 : (a0_0 == 1) = true := beq_iff_eq.mpr c12
     have c12b1 : (a0_0 != 1) = false := bne_eq_false_iff_eq.mpr c12
     clear c12
     have H' := aK H
     clear H
     have hcz13_0 : w3.cell? ⟨gb161, 0, none⟩ = some (.int .i64 a0_0) := (kCe BK161.out 0).trans rfl
     have hcz13_1 : w3.cell? ⟨gb161, 1, none⟩ = some (.string a0_1) := (kCe BK161.out 1).trans rfl
     have hcz13_2 : w3.cell? ⟨gb161, 2, none⟩ = some (.string a0_2) := (kCe BK161.out 2).trans rfl
     have hcz13_3 : w3.cell? ⟨gb161, 3, none⟩ = some (.int .i64 a0_3) := (kCe BK161.out 3).trans rfl
     have hcz13_4 : w3.cell? ⟨gb161, 4, none⟩ = some (.int .i64 a0_4) := (kCe BK161.out 4).trans rfl
     have hfz13_0 := bFz BK161.out 0
     have hfz13_1 := bFz BK161.out 1
     have hfz13_2 := bFz BK161.out 2
     have hfz13_3 := bFz BK161.out 3
     have hfz13_4 := bFz BK161.out 4
     go_wp2_with (first | ((with_reducible refine gate_callee (f := 43) rfl ?_); refine goesL_ (some 5) rfl rfl Try.func43 (by kernel_rfl) rfl #[.agg #[.int .i64 a0_0, .string a0_1, .string a0_2, .int .i64 a0_3, .int .i64 a0_4]] rfl (by (try simp only [qM0, qM1, qM2]); first | done | rfl | (simp only [qD0, qD1]; rfl)) ?_; (with_reducible refine (check_kept.calls a0_0 a0_1 a0_2 a0_3 a0_4 false _ A4.out).mono ?_); rintro e w14 ⟨rfl, hb⟩; refine ⟨_, rfl, ?_⟩; have n0_ := aK (kBe (g := gb161) (o := .cells #[.int .i64 a0_0, .string a0_1, .string a0_2, .int .i64 a0_3, .int .i64 a0_4] 23 (0, 0)) (by (with_reducible repeat (first | refine kDN ?_ _ | refine kDr ?_ | refine kAl ?_ _)); exact BK161.out) hb); have n1_ := aK (bSp (by repeat (first | (with_reducible first | exact HB.out | apply bAl | apply pbD | apply bD1 | refine bSt ?_ GE161.out) | exact HB.out)) hb); clear BK161; clear HB; have BK161 := n0_; have HB := n1_; clear n0_ n1_; (try clear hb); (try clear hb2); (try clear hk); (try clear hi); have hcz15_0 : w14.cell? ⟨gb161, 0, none⟩ = some (.int .i64 a0_0) := (kCe BK161.out 0).trans rfl; have hcz15_1 : w14.cell? ⟨gb161, 1, none⟩ = some (.string a0_1) := (kCe BK161.out 1).trans rfl; have hcz15_2 : w14.cell? ⟨gb161, 2, none⟩ = some (.string a0_2) := (kCe BK161.out 2).trans rfl; have hcz15_3 : w14.cell? ⟨gb161, 3, none⟩ = some (.int .i64 a0_3) := (kCe BK161.out 3).trans rfl; have hcz15_4 : w14.cell? ⟨gb161, 4, none⟩ = some (.int .i64 a0_4) := (kCe BK161.out 4).trans rfl; have hfz15_0 := bFz BK161.out 0; have hfz15_1 := bFz BK161.out 1; have hfz15_2 := bFz BK161.out 2; have hfz15_3 := bFz BK161.out 3; have hfz15_4 := bFz BK161.out 4))
     go_meet
     case rel => exact ⟨_, (((a0_1.size : Int) == 1)), (by first | rfl | (simp; done) | (simp [*]; done)), H', ⟨by first | omega | exact Nat.le_refl _⟩, ⟨by (with_reducible repeat (first | refine kDN ?_ _ | refine kDr ?_ | refine kAl ?_ _)); exact BK161.out⟩, ⟨by repeat (first | (with_reducible first | exact HB.out | apply bAl | apply pbD | apply bD1 | refine bSt ?_ GE161.out) | exact HB.out)⟩⟩
    ·
     rw [if_neg c12] at H
     have c12b0 : (a0_0 == 1) = false := beq_eq_false_iff_ne.mpr c12
     have c12b1 : (a0_0 != 1) = true := bne_iff_ne.mpr c12
     have H' := aK H
     clear H
     have hcz16_0 : w3.cell? ⟨gb161, 0, none⟩ = some (.int .i64 a0_0) := (kCe BK161.out 0).trans rfl
     have hcz16_1 : w3.cell? ⟨gb161, 1, none⟩ = some (.string a0_1) := (kCe BK161.out 1).trans rfl
     have hcz16_2 : w3.cell? ⟨gb161, 2, none⟩ = some (.string a0_2) := (kCe BK161.out 2).trans rfl
     have hcz16_3 : w3.cell? ⟨gb161, 3, none⟩ = some (.int .i64 a0_3) := (kCe BK161.out 3).trans rfl
     have hcz16_4 : w3.cell? ⟨gb161, 4, none⟩ = some (.int .i64 a0_4) := (kCe BK161.out 4).trans rfl
     have hfz16_0 := bFz BK161.out 0
     have hfz16_1 := bFz BK161.out 1
     have hfz16_2 := bFz BK161.out 2
     have hfz16_3 := bFz BK161.out 3
     have hfz16_4 := bFz BK161.out 4
     go_wp2_with (first | ((with_reducible refine gate_callee (f := 43) rfl ?_); refine goesL_ (some 5) rfl rfl Try.func43 (by kernel_rfl) rfl #[.agg #[.int .i64 a0_0, .string a0_1, .string a0_2, .int .i64 a0_3, .int .i64 a0_4]] rfl (by (try simp only [qM0, qM1, qM2]); first | done | rfl | (simp only [qD0, qD1]; rfl)) ?_; (with_reducible refine (check_kept.calls a0_0 a0_1 a0_2 a0_3 a0_4 false _ A4.out).mono ?_); rintro e w17 ⟨rfl, hb⟩; refine ⟨_, rfl, ?_⟩; have n0_ := aK (kBe (g := gb161) (o := .cells #[.int .i64 a0_0, .string a0_1, .string a0_2, .int .i64 a0_3, .int .i64 a0_4] 23 (0, 0)) (by (with_reducible repeat (first | refine kDN ?_ _ | refine kDr ?_ | refine kAl ?_ _)); exact BK161.out) hb); have n1_ := aK (bSp (by repeat (first | (with_reducible first | exact HB.out | apply bAl | apply pbD | apply bD1 | refine bSt ?_ GE161.out) | exact HB.out)) hb); clear BK161; clear HB; have BK161 := n0_; have HB := n1_; clear n0_ n1_; (try clear hb); (try clear hb2); (try clear hk); (try clear hi); have hcz18_0 : w17.cell? ⟨gb161, 0, none⟩ = some (.int .i64 a0_0) := (kCe BK161.out 0).trans rfl; have hcz18_1 : w17.cell? ⟨gb161, 1, none⟩ = some (.string a0_1) := (kCe BK161.out 1).trans rfl; have hcz18_2 : w17.cell? ⟨gb161, 2, none⟩ = some (.string a0_2) := (kCe BK161.out 2).trans rfl; have hcz18_3 : w17.cell? ⟨gb161, 3, none⟩ = some (.int .i64 a0_3) := (kCe BK161.out 3).trans rfl; have hcz18_4 : w17.cell? ⟨gb161, 4, none⟩ = some (.int .i64 a0_4) := (kCe BK161.out 4).trans rfl; have hfz18_0 := bFz BK161.out 0; have hfz18_1 := bFz BK161.out 1; have hfz18_2 := bFz BK161.out 2; have hfz18_3 := bFz BK161.out 3; have hfz18_4 := bFz BK161.out 4))
     go_meet
     case rel => exact ⟨_, (false), (by first | rfl | (simp; done) | (simp [*]; done)), H', ⟨by first | omega | exact Nat.le_refl _⟩, ⟨by (with_reducible repeat (first | refine kDN ?_ _ | refine kDr ?_ | refine kAl ?_ _)); exact BK161.out⟩, ⟨by repeat (first | (with_reducible first | exact HB.out | apply bAl | apply pbD | apply bD1 | refine bSt ?_ GE161.out) | exact HB.out)⟩⟩
 case rest =>
  clear HC2
  try clear c1
  try clear c2
  try clear p2
  try clear c4
  try clear c5
  try clear c8
  try clear c8b0
  try clear c8b1
  try clear c12
  try clear c12b0
  try clear c12b1
  try clear hcz11_0
  try clear hcz11_1
  try clear hcz11_2
  try clear hcz11_3
  try clear hcz11_4
  try clear hcz13_0
  try clear hcz13_1
  try clear hcz13_2
  try clear hcz13_3
  try clear hcz13_4
  try clear hcz15_0
  try clear hcz15_1
  try clear hcz15_2
  try clear hcz15_3
  try clear hcz15_4
  try clear hcz16_0
  try clear hcz16_1
  try clear hcz16_2
  try clear hcz16_3
  try clear hcz16_4
  try clear hcz18_0
  try clear hcz18_1
  try clear hcz18_2
  try clear hcz18_3
  try clear hcz18_4
  try clear hcz6_0
  try clear hcz6_1
  try clear hcz6_2
  try clear hcz6_3
  try clear hcz6_4
  try clear hcz9_0
  try clear hcz9_1
  try clear hcz9_2
  try clear hcz9_3
  try clear hcz9_4
  try clear hfz11_0
  try clear hfz11_1
  try clear hfz11_2
  try clear hfz11_3
  try clear hfz11_4
  try clear hfz13_0
  try clear hfz13_1
  try clear hfz13_2
  try clear hfz13_3
  try clear hfz13_4
  try clear hfz15_0
  try clear hfz15_1
  try clear hfz15_2
  try clear hfz15_3
  try clear hfz15_4
  try clear hfz16_0
  try clear hfz16_1
  try clear hfz16_2
  try clear hfz16_3
  try clear hfz16_4
  try clear hfz18_0
  try clear hfz18_1
  try clear hfz18_2
  try clear hfz18_3
  try clear hfz18_4
  try clear hfz6_0
  try clear hfz6_1
  try clear hfz6_2
  try clear hfz6_3
  try clear hfz6_4
  try clear hfz9_0
  try clear hfz9_1
  try clear hfz9_2
  try clear hfz9_3
  try clear hfz9_4
  obtain ⟨kq, x3_1, rfl, HA, HJ1, BK161, HB⟩ := hcut
  cases kq with
  | zero => exact absurd HA.out (by simp [check_most.j0])
  | succ kj1 =>
   have H := HA.out
   clear HA
   simp only [check_most.j0] at H
   by_cases c19 : x3_1 = true
   ·
    subst c19
    have H1 : (some 1) = some r := by rw [if_pos rfl] at H; exact H
    clear H
    have H := H1
    clear H1
    obtain rfl := oI H
    go_wp2
    go_ret
    exact ⟨by first | rfl | (simp [eWn, eWs] <;> rfl) | (simp [*, eWn, eWs] <;> rfl), by repeat (first | (with_reducible first | exact HB.out | apply bAl | apply pbD | apply bD1 | refine bSt ?_ GE161.out) | exact HB.out)⟩
   ·
    replace c19 := Bool.eq_false_iff.mpr c19
    subst c19
    have H1 : (if a0_0 = 8 then (if a0_1.toList = ([110, 117, 109] : List UInt8) then (some 2) else (if a0_1.toList = ([108, 101, 116] : List UInt8) then (some 2) else (some 4))) else (some 4)) = some r := by rw [if_neg (show ¬ (false = true) by decide)] at H; exact H
    clear H
    have H := H1
    clear H1
    by_cases c20 : a0_0 = 8
    ·
     rw [if_pos c20] at H
     have c20b0 : (a0_0 == 8) = true := beq_iff_eq.mpr c20
     have c20b1 : (a0_0 != 8) = false := bne_eq_false_iff_eq.mpr c20
     clear c20
     by_cases c21 : a0_1.toList = ([110, 117, 109] : List UInt8)
     ·
      rw [if_pos c21] at H
      have c21b0 : (a0_1.toList == ([110, 117, 109] : List UInt8)) = true := beq_iff_eq.mpr c21
      have c21b1 : (a0_1.toList != ([110, 117, 109] : List UInt8)) = false := bne_eq_false_iff_eq.mpr c21
      clear c21
      obtain rfl := oI H
      have hcz22_0 : wc.cell? ⟨gb161, 0, none⟩ = some (.int .i64 a0_0) := (kCe BK161.out 0).trans rfl
      have hcz22_1 : wc.cell? ⟨gb161, 1, none⟩ = some (.string a0_1) := (kCe BK161.out 1).trans rfl
      have hcz22_2 : wc.cell? ⟨gb161, 2, none⟩ = some (.string a0_2) := (kCe BK161.out 2).trans rfl
      have hcz22_3 : wc.cell? ⟨gb161, 3, none⟩ = some (.int .i64 a0_3) := (kCe BK161.out 3).trans rfl
      have hcz22_4 : wc.cell? ⟨gb161, 4, none⟩ = some (.int .i64 a0_4) := (kCe BK161.out 4).trans rfl
      have hfz22_0 := bFz BK161.out 0
      have hfz22_1 := bFz BK161.out 1
      have hfz22_2 := bFz BK161.out 2
      have hfz22_3 := bFz BK161.out 3
      have hfz22_4 := bFz BK161.out 4
      go_wp2
      go_ret
      exact ⟨by first | rfl | (simp [eWn, eWs] <;> rfl) | (simp [*, eWn, eWs] <;> rfl), by repeat (first | (with_reducible first | exact HB.out | apply bAl | apply pbD | apply bD1 | refine bSt ?_ GE161.out) | exact HB.out)⟩
     ·
      rw [if_neg c21] at H
      have c21b0 : (a0_1.toList == ([110, 117, 109] : List UInt8)) = false := beq_eq_false_iff_ne.mpr c21
      have c21b1 : (a0_1.toList != ([110, 117, 109] : List UInt8)) = true := bne_iff_ne.mpr c21
      by_cases c23 : a0_1.toList = ([108, 101, 116] : List UInt8)
      ·
       rw [if_pos c23] at H
       have c23b0 : (a0_1.toList == ([108, 101, 116] : List UInt8)) = true := beq_iff_eq.mpr c23
       have c23b1 : (a0_1.toList != ([108, 101, 116] : List UInt8)) = false := bne_eq_false_iff_eq.mpr c23
       clear c23
       obtain rfl := oI H
       have hcz24_0 : wc.cell? ⟨gb161, 0, none⟩ = some (.int .i64 a0_0) := (kCe BK161.out 0).trans rfl
       have hcz24_1 : wc.cell? ⟨gb161, 1, none⟩ = some (.string a0_1) := (kCe BK161.out 1).trans rfl
       have hcz24_2 : wc.cell? ⟨gb161, 2, none⟩ = some (.string a0_2) := (kCe BK161.out 2).trans rfl
       have hcz24_3 : wc.cell? ⟨gb161, 3, none⟩ = some (.int .i64 a0_3) := (kCe BK161.out 3).trans rfl
       have hcz24_4 : wc.cell? ⟨gb161, 4, none⟩ = some (.int .i64 a0_4) := (kCe BK161.out 4).trans rfl
       have hfz24_0 := bFz BK161.out 0
       have hfz24_1 := bFz BK161.out 1
       have hfz24_2 := bFz BK161.out 2
       have hfz24_3 := bFz BK161.out 3
       have hfz24_4 := bFz BK161.out 4
       go_wp2
       go_ret
       exact ⟨by first | rfl | (simp [eWn, eWs] <;> rfl) | (simp [*, eWn, eWs] <;> rfl), by repeat (first | (with_reducible first | exact HB.out | apply bAl | apply pbD | apply bD1 | refine bSt ?_ GE161.out) | exact HB.out)⟩
      ·
       rw [if_neg c23] at H
       have c23b0 : (a0_1.toList == ([108, 101, 116] : List UInt8)) = false := beq_eq_false_iff_ne.mpr c23
       have c23b1 : (a0_1.toList != ([108, 101, 116] : List UInt8)) = true := bne_iff_ne.mpr c23
       obtain rfl := oI H
       have hcz25_0 : wc.cell? ⟨gb161, 0, none⟩ = some (.int .i64 a0_0) := (kCe BK161.out 0).trans rfl
       have hcz25_1 : wc.cell? ⟨gb161, 1, none⟩ = some (.string a0_1) := (kCe BK161.out 1).trans rfl
       have hcz25_2 : wc.cell? ⟨gb161, 2, none⟩ = some (.string a0_2) := (kCe BK161.out 2).trans rfl
       have hcz25_3 : wc.cell? ⟨gb161, 3, none⟩ = some (.int .i64 a0_3) := (kCe BK161.out 3).trans rfl
       have hcz25_4 : wc.cell? ⟨gb161, 4, none⟩ = some (.int .i64 a0_4) := (kCe BK161.out 4).trans rfl
       have hfz25_0 := bFz BK161.out 0
       have hfz25_1 := bFz BK161.out 1
       have hfz25_2 := bFz BK161.out 2
       have hfz25_3 := bFz BK161.out 3
       have hfz25_4 := bFz BK161.out 4
       go_wp2
       go_ret
       exact ⟨by first | rfl | (simp [eWn, eWs] <;> rfl) | (simp [*, eWn, eWs] <;> rfl), by repeat (first | (with_reducible first | exact HB.out | apply bAl | apply pbD | apply bD1 | refine bSt ?_ GE161.out) | exact HB.out)⟩
    ·
     rw [if_neg c20] at H
     have c20b0 : (a0_0 == 8) = false := beq_eq_false_iff_ne.mpr c20
     have c20b1 : (a0_0 != 8) = true := bne_iff_ne.mpr c20
     obtain rfl := oI H
     have hcz26_0 : wc.cell? ⟨gb161, 0, none⟩ = some (.int .i64 a0_0) := (kCe BK161.out 0).trans rfl
     have hcz26_1 : wc.cell? ⟨gb161, 1, none⟩ = some (.string a0_1) := (kCe BK161.out 1).trans rfl
     have hcz26_2 : wc.cell? ⟨gb161, 2, none⟩ = some (.string a0_2) := (kCe BK161.out 2).trans rfl
     have hcz26_3 : wc.cell? ⟨gb161, 3, none⟩ = some (.int .i64 a0_3) := (kCe BK161.out 3).trans rfl
     have hcz26_4 : wc.cell? ⟨gb161, 4, none⟩ = some (.int .i64 a0_4) := (kCe BK161.out 4).trans rfl
     have hfz26_0 := bFz BK161.out 0
     have hfz26_1 := bFz BK161.out 1
     have hfz26_2 := bFz BK161.out 2
     have hfz26_3 := bFz BK161.out 3
     have hfz26_4 := bFz BK161.out 4
     go_wp2
     go_ret
     exact ⟨by first | rfl | (simp [eWn, eWs] <;> rfl) | (simp [*, eWn, eWs] <;> rfl), by repeat (first | (with_reducible first | exact HB.out | apply bAl | apply pbD | apply bD1 | refine bSt ?_ GE161.out) | exact HB.out)⟩
def check_Alone.f (k : Nat) (a0_0 : Int) (a0_1 : ByteArray) (a0_2 : ByteArray) (a0_3 : Int) (a0_4 : Int) : Option (Bool) := (rules_May.f k a0_0 a0_1 a0_2 a0_3 a0_4).bind fun t164 => (if t164 = true then ((check_most.f k a0_0 a0_1 a0_2 a0_3 a0_4).bind fun t165 => (some (decide ((a0_2.size : Int) ≤ t165)))) else (some false))
theorem check_Alone.mono : ∀ a0 a1 a2 a3 a4 k, LeO (check_Alone.f k a0 a1 a2 a3 a4) (check_Alone.f (k + 1) a0 a1 a2 a3 a4) := by
 intro a0 a1 a2 a3 a4 k
 unfold check_Alone.f
 repeat' first
   | (with_reducible exact check_most.mono _ _ _ _ _ _)
   | (with_reducible exact rules_May.mono _ _ _ _ _ _)
   | (with_reducible exact LeO.refl _)
   | (with_reducible exact LeO.none _)
   | (with_reducible refine LeO.ite ?_ ?_)
   | (with_reducible refine LeO.bind ?_ (fun _ => ?_))
   | exact check_most.mono _ _ _ _ _ _
   | exact rules_May.mono _ _ _ _ _ _
   | exact LeO.none _
   | refine LeO.ite ?_ ?_
   | refine LeO.bind ?_ (fun _ => ?_)
def check_Alone.T1 : Bool × List (List Nat × List Nat) := (true, [([], []), ([0], [0]), ([1, 1], [1]), ([2], [2]), ([3, 2], [2, 3]), ([4, 2], [2, 4]), ([2], [2]), ([6, 2, 2], [2, 6]), ([5, 7, 2], [2, 5, 7]), ([2, 8], [2, 8]), ([9, 7, 0, 1, 2, 3, 4, 5, 6, 7, 8, 9], [9])])
def check_Alone.B1 : List Nat := [0, 1, 3, 7, 15, 31, 7, 71, 255, 511, 1023]
theorem check_Alone.tab1 : rtab .any (opsOf Try.f11 1) = check_Alone.T1 := by kernel_rfl
theorem check_Alone.bits1 : waitsOk check_Alone.T1.2 check_Alone.B1 = true := by kernel_rfl
set_option maxHeartbeats 8000000 in
set_option maxRecDepth 100000 in
theorem check_Alone.calls (k : Nat) (a0_0 : Int) (a0_1 : ByteArray) (a0_2 : ByteArray) (a0_3 : Int) (a0_4 : Int) (r : Bool) (w : World) (h : check_Alone.f k a0_0 a0_1 a0_2 a0_3 a0_4 = some r) :
  Calls Try.prog 11 #[.agg #[.int .i64 a0_0, .string a0_1, .string a0_2, .int .i64 a0_3, .int .i64 a0_4]] w fun e w' => e = .returned (.bool r) ∧ Below w.heap.size w w' := by
 have hu23 := Try.underlying23
 have HB := aK (Below.refl w.heap.size w)
 have H : ((rules_May.f k a0_0 a0_1 a0_2 a0_3 a0_4).bind fun t164 => (if t164 = true then ((check_most.f k a0_0 a0_1 a0_2 a0_3 a0_4).bind fun t165 => (some (decide ((a0_2.size : Int) ≤ t165)))) else (some false))) = some r := h
 clear h
 replace H := oB H
 obtain ⟨t164, A20, H⟩ := H
 try dsimp only at H
 have A2 := aK A20
 clear A20
 by_cases c3 : t164 = true
 ·
  subst c3
  have H1 : ((check_most.f k a0_0 a0_1 a0_2 a0_3 a0_4).bind fun t165 => (some (decide ((a0_2.size : Int) ≤ t165)))) = some r := by rw [if_pos rfl] at H; exact H
  clear H
  have H := H1
  clear H1
  replace H := oB H
  obtain ⟨t165, A40, H⟩ := H
  replace H : (some (decide ((a0_2.size : Int) ≤ t165))) = some r := H
  have A4 := aK A40
  clear A40
  obtain rfl := oI H
  go_enter Try.func11, Try.ntmps11
  try go_wp2_with (first | ((with_reducible refine gate_dst (N := 1) rfl ?_); (try (refine gate_guard (by rfl) ?_; dsimp only)); refine box_event ?hg (N := 1) ?hd (cs := #[.int .i64 a0_0, .string a0_1, .string a0_2, .int .i64 a0_3, .int .i64 a0_4]) (t := 23) ?hr ?_; (case hd => rfl); (case hg => rfl); (case hr => first | (go_simp; done) | (go_simp; rfl)); intro gb163 hg w5 hbox hb; have n0_ := aK (bSp (by repeat (first | (with_reducible first | exact HB.out | apply bAl | apply pbD | apply bD1) | exact HB.out)) hb); have n1_ := aK (hbox); have n2_ := aK ((by rw [hg]; exact (bSz (by repeat (first | (with_reducible first | exact HB.out | apply bAl | apply pbD | apply bD1) | exact HB.out))) : w.heap.size ≤ gb163)); have n3_ := aK ((by rw [hg]; exact (bSz (by repeat (first | (with_reducible first | exact HB.out | apply bAl | apply pbD | apply bD1) | exact HB.out))) : w.heap.size ≤ gb163)); clear HB; have HB := n0_; have BK163 := n1_; have GW163 := n2_; have GE163 := n3_; clear n0_ n1_ n2_ n3_; clear hb hbox hg))
  have n0_ := aK (kDr BK163.out)
  have n1_ := aK (bD1 HB.out)
  clear BK163
  clear HB
  have BK163 := n0_
  have HB := n1_
  clear n0_ n1_
  refine start_ (n := 11) (S := fun w' => w'.cell? ⟨gb163, 0, none⟩ = some (.int .i64 a0_0) ∧ w'.cell? ⟨gb163, 1, none⟩ = some (.string a0_1) ∧ w'.cell? ⟨gb163, 2, none⟩ = some (.string a0_2) ∧ w'.cell? ⟨gb163, 3, none⟩ = some (.int .i64 a0_3) ∧ w'.cell? ⟨gb163, 4, none⟩ = some (.int .i64 a0_4)) (ds := []) z5_0 (by kernel_rfl) rfl rfl ⟨(kCe BK163.out 0).trans rfl, (kCe BK163.out 1).trans rfl, (kCe BK163.out 2).trans rfl, (kCe BK163.out 3).trans rfl, (kCe BK163.out 4).trans rfl⟩ (fun hHeld => ?_); refine with_tabW check_Alone.tab1 check_Alone.bits1 (fun HT_ HW_ => ?_)
  generalize w5.drew = w6 at BK163 HB hHeld ⊢
  refine take_ (i := 0) (N := some 3) (v := ?_) (a' := ?_) z5_1 rfl rfl (take_ofW HT_.out HW_.out (by kernel_rfl)) (fun _ _ _ h => h) (Or.inl ⟨by rfl, ?_⟩) hHeld ?_ ?_
  rotate_left
  ·
   rintro w' ⟨s0, s1, s2, s3, s4⟩
   go_simp
   with_reducible rfl
  rotate_left
  ·
   simp only [Act.put, qSa, qS0, qS1, i64_w, i32_w]
   rfl
  refine one_ (i := 1) (N := some 4) z5_2 rfl rfl (one_of HT_.out (by kernel_rfl)) (by decide) (fun K hK => ?_)
  refine goes_ Try.func28 (by kernel_rfl) rfl #[.agg #[.int .i64 a0_0, .string a0_1, .string a0_2, .int .i64 a0_3, .int .i64 a0_4]] (by rfl) rfl rfl (by (try simp only [qM0, qM1, qM2]); first | done | rfl | (simp only [qD0, qD1]; rfl)) ?_
  with_reducible refine (rules_May.calls k a0_0 a0_1 a0_2 a0_3 a0_4 true _ A2.out).mono ?_
  rintro e w7 ⟨rfl, hb⟩
  refine ⟨_, rfl, ?_⟩
  have n0_ := aK (kBe (g := gb163) (o := .cells #[.int .i64 a0_0, .string a0_1, .string a0_2, .int .i64 a0_3, .int .i64 a0_4] 23 (0, 0)) (by (with_reducible repeat (first | refine kDN ?_ _ | refine kDr ?_ | refine kAl ?_ _)); exact BK163.out) hb)
  have n1_ := aK (bSp (by repeat (first | (with_reducible first | exact HB.out | apply bAl | apply pbD | apply bD1 | refine bSt ?_ GE163.out) | exact HB.out)) hb)
  clear BK163
  clear HB
  have BK163 := n0_
  have HB := n1_
  clear n0_ n1_
  (try clear hb)
  (try clear hb2)
  (try clear hk)
  (try clear hi)
  refine hK.out _ _ ⟨(kCe BK163.out 0).trans rfl, (kCe BK163.out 1).trans rfl, (kCe BK163.out 2).trans rfl, (kCe BK163.out 3).trans rfl, (kCe BK163.out 4).trans rfl⟩ (fun hHeld => ?_)
  clear hK K
  refine norm_ (a' := ?_) ?_ ?_
  rotate_left
  ·
   show Act.put _ (some 4) _ = _
   simp only [Act.put, qSa, qS0, qS1, i64_w, i32_w]
   rfl
  refine pure_ (i := 2) (N := some 5) (v := ?_) (a' := ?_) z5_3 rfl rfl (any_of HT_.out (by kernel_rfl)) (fun _ _ _ h => h) (Or.inl ⟨by rfl, ?_⟩) ?_ ?_
  rotate_left
  ·
   intro w'
   go_simp
   with_reducible rfl
  rotate_left
  ·
   simp only [Act.put, qSa, qS0, qS1, i64_w, i32_w]
   rfl
  refine pure_ (i := 3) (N := some 6) (v := ?_) (a' := ?_) z5_4 rfl rfl (any_of HT_.out (by kernel_rfl)) (fun _ _ _ h => h) (Or.inl ⟨by rfl, ?_⟩) ?_ ?_
  rotate_left
  ·
   intro w'
   go_simp
   with_reducible rfl
  rotate_left
  ·
   simp only [Act.put, qSa, qS0, qS1, i64_w, i32_w]
   rfl
  refine take_ (i := 4) (N := some 7) (v := ?_) (a' := ?_) z5_5 rfl rfl (take_ofW HT_.out HW_.out (by kernel_rfl)) (fun _ _ _ h => h) (Or.inl ⟨by rfl, ?_⟩) hHeld ?_ ?_
  rotate_left
  ·
   rintro w' ⟨s0, s1, s2, s3, s4⟩
   go_simp
   with_reducible rfl
  rotate_left
  ·
   simp only [Act.put, qSa, qS0, qS1, i64_w, i32_w]
   rfl
  refine pure_ (i := 5) (N := some 8) (v := ?_) (a' := ?_) z5_6 rfl rfl (any_of HT_.out (by kernel_rfl)) (fun _ _ _ h => h) (Or.inl ⟨by rfl, ?_⟩) ?_ ?_
  rotate_left
  ·
   intro w'
   go_simp
   with_reducible rfl
  rotate_left
  ·
   simp only [Act.put, qSa, qS0, qS1, i64_w, i32_w]
   rfl
  refine take_ (i := 6) (N := some 9) (v := ?_) (a' := ?_) z5_7 rfl rfl (take_ofW HT_.out HW_.out (by kernel_rfl)) (fun _ _ _ h => h) (Or.inl ⟨by rfl, ?_⟩) hHeld ?_ ?_
  rotate_left
  ·
   rintro w' ⟨s0, s1, s2, s3, s4⟩
   go_simp
   with_reducible rfl
  rotate_left
  ·
   simp only [Act.put, qSa, qS0, qS1, i64_w, i32_w]
   rfl
  refine one_ (i := 7) (N := some 10) z5_8 rfl rfl (one_of HT_.out (by kernel_rfl)) (by decide) (fun K hK => ?_)
  refine goes_ Try.func29 (by kernel_rfl) rfl #[.agg #[.int .i64 a0_0, .string a0_1, .string a0_2, .int .i64 a0_3, .int .i64 a0_4]] (by rfl) rfl rfl (by (try simp only [qM0, qM1, qM2]); first | done | rfl | (simp only [qD0, qD1]; rfl)) ?_
  with_reducible refine (check_most.calls k a0_0 a0_1 a0_2 a0_3 a0_4 t165 _ A4.out).mono ?_
  rintro e w8 ⟨rfl, hb⟩
  refine ⟨_, rfl, ?_⟩
  have n0_ := aK (kBe (g := gb163) (o := .cells #[.int .i64 a0_0, .string a0_1, .string a0_2, .int .i64 a0_3, .int .i64 a0_4] 23 (0, 0)) (by (with_reducible repeat (first | refine kDN ?_ _ | refine kDr ?_ | refine kAl ?_ _)); exact BK163.out) hb)
  have n1_ := aK (bSp (by repeat (first | (with_reducible first | exact HB.out | apply bAl | apply pbD | apply bD1 | refine bSt ?_ GE163.out) | exact HB.out)) hb)
  clear BK163
  clear HB
  have BK163 := n0_
  have HB := n1_
  clear n0_ n1_
  (try clear hb)
  (try clear hb2)
  (try clear hk)
  (try clear hi)
  refine hK.out _ _ ⟨(kCe BK163.out 0).trans rfl, (kCe BK163.out 1).trans rfl, (kCe BK163.out 2).trans rfl, (kCe BK163.out 3).trans rfl, (kCe BK163.out 4).trans rfl⟩ (fun hHeld => ?_)
  clear hK K
  refine norm_ (a' := ?_) ?_ ?_
  rotate_left
  ·
   show Act.put _ (some 10) _ = _
   simp only [Act.put, qSa, qS0, qS1, i64_w, i32_w]
   rfl
  refine pure_ (i := 8) (N := some 11) (v := ?_) (a' := ?_) z5_9 rfl rfl (any_of HT_.out (by kernel_rfl)) (fun _ _ _ h => h) (Or.inl ⟨by rfl, ?_⟩) ?_ ?_
  rotate_left
  ·
   intro w'
   go_simp
   with_reducible rfl
  rotate_left
  ·
   simp only [Act.put, qSa, qS0, qS1, i64_w, i32_w]
   rfl
  refine pure_ (i := 9) (N := some 12) (v := ?_) (a' := ?_) z5_10 rfl rfl (any_of HT_.out (by kernel_rfl)) (fun _ _ _ h => h) (Or.inl ⟨by rfl, ?_⟩) ?_ ?_
  rotate_left
  ·
   intro w'
   go_simp
   with_reducible rfl
  rotate_left
  ·
   simp only [Act.put, qSa, qS0, qS1, i64_w, i32_w]
   rfl
  refine pure_ (i := 10) (N := some 2) (v := ?_) (a' := ?_) z5_11 rfl rfl (any_of HT_.out (by kernel_rfl)) (fun _ _ _ h => h) (Or.inl ⟨by rfl, ?_⟩) ?_ ?_
  rotate_left
  ·
   intro w'
   go_simp
   with_reducible rfl
  rotate_left
  ·
   simp only [Act.put, qSa, qS0, qS1, i64_w, i32_w]
   rfl
  refine done_ (done_of HT_.out (by kernel_rfl)) ?_
  try go_wp2
  go_ret
  exact ⟨by first | rfl | (simp [eWn, eWs] <;> rfl) | (simp [*, eWn, eWs] <;> rfl), by repeat (first | (with_reducible first | exact HB.out | apply bAl | apply pbD | apply bD1 | refine bSt ?_ GE163.out) | exact HB.out)⟩
 ·
  replace c3 := Bool.eq_false_iff.mpr c3
  subst c3
  have H1 : (some false) = some r := by rw [if_neg (show ¬ (false = true) by decide)] at H; exact H
  clear H
  have H := H1
  clear H1
  obtain rfl := oI H
  go_enter Try.func11, Try.ntmps11
  try go_wp2_with (first | ((with_reducible refine gate_dst (N := 1) rfl ?_); (try (refine gate_guard (by rfl) ?_; dsimp only)); refine box_event ?hg (N := 1) ?hd (cs := #[.int .i64 a0_0, .string a0_1, .string a0_2, .int .i64 a0_3, .int .i64 a0_4]) (t := 23) ?hr ?_; (case hd => rfl); (case hg => rfl); (case hr => first | (go_simp; done) | (go_simp; rfl)); intro gb163 hg w9 hbox hb; have n0_ := aK (bSp (by repeat (first | (with_reducible first | exact HB.out | apply bAl | apply pbD | apply bD1) | exact HB.out)) hb); have n1_ := aK (hbox); have n2_ := aK ((by rw [hg]; exact (bSz (by repeat (first | (with_reducible first | exact HB.out | apply bAl | apply pbD | apply bD1) | exact HB.out))) : w.heap.size ≤ gb163)); have n3_ := aK ((by rw [hg]; exact (bSz (by repeat (first | (with_reducible first | exact HB.out | apply bAl | apply pbD | apply bD1) | exact HB.out))) : w.heap.size ≤ gb163)); clear HB; have HB := n0_; have BK163 := n1_; have GW163 := n2_; have GE163 := n3_; clear n0_ n1_ n2_ n3_; clear hb hbox hg))
  have n0_ := aK (kDr BK163.out)
  have n1_ := aK (bD1 HB.out)
  clear BK163
  clear HB
  have BK163 := n0_
  have HB := n1_
  clear n0_ n1_
  refine start_ (n := 11) (S := fun w' => w'.cell? ⟨gb163, 0, none⟩ = some (.int .i64 a0_0) ∧ w'.cell? ⟨gb163, 1, none⟩ = some (.string a0_1) ∧ w'.cell? ⟨gb163, 2, none⟩ = some (.string a0_2) ∧ w'.cell? ⟨gb163, 3, none⟩ = some (.int .i64 a0_3) ∧ w'.cell? ⟨gb163, 4, none⟩ = some (.int .i64 a0_4)) (ds := []) z5_0 (by kernel_rfl) rfl rfl ⟨(kCe BK163.out 0).trans rfl, (kCe BK163.out 1).trans rfl, (kCe BK163.out 2).trans rfl, (kCe BK163.out 3).trans rfl, (kCe BK163.out 4).trans rfl⟩ (fun hHeld => ?_); refine with_tabW check_Alone.tab1 check_Alone.bits1 (fun HT_ HW_ => ?_)
  generalize w9.drew = w10 at BK163 HB hHeld ⊢
  refine take_ (i := 0) (N := some 3) (v := ?_) (a' := ?_) z5_1 rfl rfl (take_ofW HT_.out HW_.out (by kernel_rfl)) (fun _ _ _ h => h) (Or.inl ⟨by rfl, ?_⟩) hHeld ?_ ?_
  rotate_left
  ·
   rintro w' ⟨s0, s1, s2, s3, s4⟩
   go_simp
   with_reducible rfl
  rotate_left
  ·
   simp only [Act.put, qSa, qS0, qS1, i64_w, i32_w]
   rfl
  refine one_ (i := 1) (N := some 4) z5_2 rfl rfl (one_of HT_.out (by kernel_rfl)) (by decide) (fun K hK => ?_)
  refine goes_ Try.func28 (by kernel_rfl) rfl #[.agg #[.int .i64 a0_0, .string a0_1, .string a0_2, .int .i64 a0_3, .int .i64 a0_4]] (by rfl) rfl rfl (by (try simp only [qM0, qM1, qM2]); first | done | rfl | (simp only [qD0, qD1]; rfl)) ?_
  with_reducible refine (rules_May.calls k a0_0 a0_1 a0_2 a0_3 a0_4 false _ A2.out).mono ?_
  rintro e w11 ⟨rfl, hb⟩
  refine ⟨_, rfl, ?_⟩
  have n0_ := aK (kBe (g := gb163) (o := .cells #[.int .i64 a0_0, .string a0_1, .string a0_2, .int .i64 a0_3, .int .i64 a0_4] 23 (0, 0)) (by (with_reducible repeat (first | refine kDN ?_ _ | refine kDr ?_ | refine kAl ?_ _)); exact BK163.out) hb)
  have n1_ := aK (bSp (by repeat (first | (with_reducible first | exact HB.out | apply bAl | apply pbD | apply bD1 | refine bSt ?_ GE163.out) | exact HB.out)) hb)
  clear BK163
  clear HB
  have BK163 := n0_
  have HB := n1_
  clear n0_ n1_
  (try clear hb)
  (try clear hb2)
  (try clear hk)
  (try clear hi)
  refine hK.out _ _ ⟨(kCe BK163.out 0).trans rfl, (kCe BK163.out 1).trans rfl, (kCe BK163.out 2).trans rfl, (kCe BK163.out 3).trans rfl, (kCe BK163.out 4).trans rfl⟩ (fun hHeld => ?_)
  clear hK K
  refine norm_ (a' := ?_) ?_ ?_
  rotate_left
  ·
   show Act.put _ (some 4) _ = _
   simp only [Act.put, qSa, qS0, qS1, i64_w, i32_w]
   rfl
  refine pure_ (i := 2) (N := some 5) (v := ?_) (a' := ?_) z5_3 rfl rfl (any_of HT_.out (by kernel_rfl)) (fun _ _ _ h => h) (Or.inl ⟨by rfl, ?_⟩) ?_ ?_
  rotate_left
  ·
   intro w'
   go_simp
   with_reducible rfl
  rotate_left
  ·
   simp only [Act.put, qSa, qS0, qS1, i64_w, i32_w]
   rfl
  refine pure_ (i := 3) (N := some 6) (v := undef) (a' := ?_) z5_4 rfl rfl (any_of HT_.out (by kernel_rfl)) (fun _ _ _ h => h) (Or.inr ⟨by rfl, rfl⟩) ?_ ?_
  rotate_left
  ·
   simp only [Act.put, qSa, qS0, qS1, i64_w, i32_w]
   rfl
  refine pure_ (i := 4) (N := some 7) (v := undef) (a' := ?_) z5_5 rfl rfl (any_of HT_.out (by kernel_rfl)) (fun _ _ _ h => h) (Or.inr ⟨by rfl, rfl⟩) ?_ ?_
  rotate_left
  ·
   simp only [Act.put, qSa, qS0, qS1, i64_w, i32_w]
   rfl
  refine pure_ (i := 5) (N := some 8) (v := undef) (a' := ?_) z5_6 rfl rfl (any_of HT_.out (by kernel_rfl)) (fun _ _ _ h => h) (Or.inr ⟨by rfl, rfl⟩) ?_ ?_
  rotate_left
  ·
   simp only [Act.put, qSa, qS0, qS1, i64_w, i32_w]
   rfl
  refine pure_ (i := 6) (N := some 9) (v := undef) (a' := ?_) z5_7 rfl rfl (any_of HT_.out (by kernel_rfl)) (fun _ _ _ h => h) (Or.inr ⟨by rfl, rfl⟩) ?_ ?_
  rotate_left
  ·
   simp only [Act.put, qSa, qS0, qS1, i64_w, i32_w]
   rfl
  refine pure_ (i := 7) (N := some 10) (v := undef) (a' := ?_) z5_8 rfl rfl (any_of HT_.out (by kernel_rfl)) (fun _ _ _ h => h) (Or.inr ⟨by rfl, rfl⟩) ?_ ?_
  rotate_left
  ·
   simp only [Act.put, qSa, qS0, qS1, i64_w, i32_w]
   rfl
  refine pure_ (i := 8) (N := some 11) (v := undef) (a' := ?_) z5_9 rfl rfl (any_of HT_.out (by kernel_rfl)) (fun _ _ _ h => h) (Or.inr ⟨by rfl, rfl⟩) ?_ ?_
  rotate_left
  ·
   simp only [Act.put, qSa, qS0, qS1, i64_w, i32_w]
   rfl
  refine pure_ (i := 9) (N := some 12) (v := ?_) (a' := ?_) z5_10 rfl rfl (any_of HT_.out (by kernel_rfl)) (fun _ _ _ h => h) (Or.inl ⟨by rfl, ?_⟩) ?_ ?_
  rotate_left
  ·
   intro w'
   go_simp
   with_reducible rfl
  rotate_left
  ·
   simp only [Act.put, qSa, qS0, qS1, i64_w, i32_w]
   rfl
  refine pure_ (i := 10) (N := some 2) (v := ?_) (a' := ?_) z5_11 rfl rfl (any_of HT_.out (by kernel_rfl)) (fun _ _ _ h => h) (Or.inl ⟨by rfl, ?_⟩) ?_ ?_
  rotate_left
  ·
   intro w'
   go_simp
   with_reducible rfl
  rotate_left
  ·
   simp only [Act.put, qSa, qS0, qS1, i64_w, i32_w]
   rfl
  refine done_ (done_of HT_.out (by kernel_rfl)) ?_
  try go_wp2
  go_ret
  exact ⟨by first | rfl | (simp [eWn, eWs] <;> rfl) | (simp [*, eWn, eWs] <;> rfl), by repeat (first | (with_reducible first | exact HB.out | apply bAl | apply pbD | apply bD1 | refine bSt ?_ GE163.out) | exact HB.out)⟩
def w9_rule.f (a0 : Int) (a1 : ByteArray) (a2 : ByteArray) : Option (Int × ByteArray × ByteArray × Int × Int) := some (a0, a1, a2, 0, 0)
set_option maxHeartbeats 8000000 in
set_option maxRecDepth 100000 in
theorem w9_rule.calls (a0 : Int) (a1 : ByteArray) (a2 : ByteArray) (r1 : Int) (r2 : ByteArray) (r3 : ByteArray) (r4 : Int) (r5 : Int) (w : World) (h : w9_rule.f a0 a1 a2 = some (r1, r2, r3, r4, r5)) :
  Calls Try.prog 21 #[.int .i64 a0, .string a1, .string a2] w fun e w' => e = .returned (.agg #[.int .i64 r1, .string r2, .string r3, .int .i64 r4, .int .i64 r5]) ∧ Below w.heap.size w w' := by
 have hu23 := Try.underlying23
 have HB := aK (Below.refl w.heap.size w)
 have H : (some (a0, a1, a2, 0, 0)) = some (r1, r2, r3, r4, r5) := h
 clear h
 simp only [Option.some.injEq, Prod.mk.injEq] at H
 obtain ⟨rfl, rfl, rfl, rfl, rfl⟩ := H
 go_enter Try.func21, Try.ntmps21
 go_wp2_with (first | ((with_reducible refine gate_dst (N := 6) rfl ?_); refine box_event ?hg (N := 6) ?hd (cs := #[.int .i64 0, .string (⟨#[]⟩ : ByteArray), .string (⟨#[]⟩ : ByteArray), .int .i64 0, .int .i64 0]) (t := 23) ?hr ?_; (case hd => rfl); (case hg => rfl); (case hr => first | (go_simp; done) | (go_simp; rfl)); intro gb166 hg w4 hbox hb; have n0_ := aK (bSp (by repeat (first | (with_reducible first | exact HB.out | apply bAl | apply pbD | apply bD1) | exact HB.out)) hb); have n1_ := aK (hbox); have n2_ := aK ((by rw [hg]; exact (bSz (by repeat (first | (with_reducible first | exact HB.out | apply bAl | apply pbD | apply bD1) | exact HB.out))) : w.heap.size ≤ gb166)); have n3_ := aK ((by rw [hg]; exact (bSz (by repeat (first | (with_reducible first | exact HB.out | apply bAl | apply pbD | apply bD1) | exact HB.out))) : w.heap.size ≤ gb166)); clear HB; have HB := n0_; have BK166 := n1_; have GW166 := n2_; have GE166 := n3_; clear n0_ n1_ n2_ n3_; clear hb hbox hg; have hcz5_0 : w4.cell? ⟨gb166, 0, none⟩ = some (.int .i64 0) := (kCe BK166.out 0).trans rfl; have hcz5_1 : w4.cell? ⟨gb166, 1, none⟩ = some (.string (⟨#[]⟩ : ByteArray)) := (kCe BK166.out 1).trans rfl; have hcz5_2 : w4.cell? ⟨gb166, 2, none⟩ = some (.string (⟨#[]⟩ : ByteArray)) := (kCe BK166.out 2).trans rfl; have hcz5_3 : w4.cell? ⟨gb166, 3, none⟩ = some (.int .i64 0) := (kCe BK166.out 3).trans rfl; have hcz5_4 : w4.cell? ⟨gb166, 4, none⟩ = some (.int .i64 0) := (kCe BK166.out 4).trans rfl; have hfz5_0 := bFz BK166.out 0; have hfz5_1 := bFz BK166.out 1; have hfz5_2 := bFz BK166.out 2; have hfz5_3 := bFz BK166.out 3; have hfz5_4 := bFz BK166.out 4))
 refine bodyPost_ret (results_cell_row rfl _ _ gb166 23 #[.int .i64 a0, .string a1, .string a2, .int .i64 0, .int .i64 0] (0, 0) _ rfl (by (with_reducible repeat (first | refine kDN ?_ _ | refine kDr ?_ | refine kAl ?_ _)); refine blk_put (cs := #[.int .i64 a0, .string a1, .string a2, .int .i64 0, .int .i64 0]) ?_ 4 _ rfl; (with_reducible repeat (first | refine kDN ?_ _ | refine kDr ?_ | refine kAl ?_ _)); refine blk_put (cs := #[.int .i64 a0, .string a1, .string a2, .int .i64 0, .int .i64 0]) ?_ 3 _ rfl; (with_reducible repeat (first | refine kDN ?_ _ | refine kDr ?_ | refine kAl ?_ _)); refine blk_put (cs := #[.int .i64 a0, .string a1, .string (⟨#[]⟩ : ByteArray), .int .i64 0, .int .i64 0]) ?_ 2 _ rfl; (with_reducible repeat (first | refine kDN ?_ _ | refine kDr ?_ | refine kAl ?_ _)); refine blk_put (cs := #[.int .i64 a0, .string (⟨#[]⟩ : ByteArray), .string (⟨#[]⟩ : ByteArray), .int .i64 0, .int .i64 0]) ?_ 1 _ rfl; (with_reducible repeat (first | refine kDN ?_ _ | refine kDr ?_ | refine kAl ?_ _)); refine blk_put (cs := #[.int .i64 0, .string (⟨#[]⟩ : ByteArray), .string (⟨#[]⟩ : ByteArray), .int .i64 0, .int .i64 0]) ?_ 0 _ rfl; (with_reducible repeat (first | refine kDN ?_ _ | refine kDr ?_ | refine kAl ?_ _)); exact BK166.out) Try.underlying23 rfl (by kernel_rfl)) rfl ?_
 exact ⟨by first | rfl | (simp [eWn, eWs] <;> rfl) | (simp [*, eWn, eWs] <;> rfl), by repeat (first | (with_reducible first | exact HB.out | apply bAl | apply pbD | apply bD1 | refine bSt ?_ GE166.out) | exact HB.out)⟩
def r8_Names.f  : Option (List ByteArray) := some (([(⟨#[99, 97, 112]⟩ : ByteArray), (⟨#[99, 97, 112, 115]⟩ : ByteArray), (⟨#[110, 117, 109]⟩ : ByteArray), (⟨#[108, 101, 116]⟩ : ByteArray), (⟨#[101, 43]⟩ : ByteArray), (⟨#[101, 45]⟩ : ByteArray), (⟨#[115, 43]⟩ : ByteArray), (⟨#[115, 45]⟩ : ByteArray), (⟨#[110, 43]⟩ : ByteArray), (⟨#[110, 45]⟩ : ByteArray), (⟨#[98, 108, 107]⟩ : ByteArray), (⟨#[99, 111, 110, 116]⟩ : ByteArray), (⟨#[105, 110, 100]⟩ : ByteArray)] : List ByteArray))
set_option maxHeartbeats 8000000 in
set_option maxRecDepth 100000 in
theorem r8_Names.calls  (r : List ByteArray) (w : World) (h : r8_Names.f  = some r) :
  Calls Try.prog 39 #[] w fun e w' => ∃ v0_ : Value, e = .returned (v0_) ∧ Kd.R Kd.string 9 w' w.heap.size (fun _ => True) v0_ r ∧ Below w.heap.size w w' := by
 have HB := aK (Below.refl w.heap.size w)
 have H : (some (([(⟨#[99, 97, 112]⟩ : ByteArray), (⟨#[99, 97, 112, 115]⟩ : ByteArray), (⟨#[110, 117, 109]⟩ : ByteArray), (⟨#[108, 101, 116]⟩ : ByteArray), (⟨#[101, 43]⟩ : ByteArray), (⟨#[101, 45]⟩ : ByteArray), (⟨#[115, 43]⟩ : ByteArray), (⟨#[115, 45]⟩ : ByteArray), (⟨#[110, 43]⟩ : ByteArray), (⟨#[110, 45]⟩ : ByteArray), (⟨#[98, 108, 107]⟩ : ByteArray), (⟨#[99, 111, 110, 116]⟩ : ByteArray), (⟨#[105, 110, 100]⟩ : ByteArray)] : List ByteArray))) = some r := h
 clear h
 obtain ⟨y167, hy167⟩ : ∃ y_ : List ByteArray, y_ = (([(⟨#[99, 97, 112]⟩ : ByteArray), (⟨#[99, 97, 112, 115]⟩ : ByteArray), (⟨#[110, 117, 109]⟩ : ByteArray), (⟨#[108, 101, 116]⟩ : ByteArray), (⟨#[101, 43]⟩ : ByteArray), (⟨#[101, 45]⟩ : ByteArray), (⟨#[115, 43]⟩ : ByteArray), (⟨#[115, 45]⟩ : ByteArray), (⟨#[110, 43]⟩ : ByteArray), (⟨#[110, 45]⟩ : ByteArray), (⟨#[98, 108, 107]⟩ : ByteArray), (⟨#[99, 111, 110, 116]⟩ : ByteArray), (⟨#[105, 110, 100]⟩ : ByteArray)] : List ByteArray)) := ⟨_, rfl⟩
 replace H : (some y167) = some r := by first | (rw [hy167]; with_reducible exact H) | (have H2_ := (Option.bind_some _ _).symm.trans H; rw [hy167]; with_reducible exact H2_) | (have H2_ := (Option.bind_some _ _).symm.trans H; with_reducible exact H2_) | with_reducible exact H | (rw [hy167]; exact H) | exact H
 have Ny167 := aK hy167
 clear hy167
 obtain rfl := oI H
 go_enter Try.func39, Try.ntmps39
 go_wp2_with (first | ((with_reducible refine gate_dst (N := 1) rfl ?_); refine Kd.R_lit Kd.string _ 9 ?hg (N := 1) ?hd (xs := ([(⟨#[99, 97, 112]⟩ : ByteArray), (⟨#[99, 97, 112, 115]⟩ : ByteArray), (⟨#[110, 117, 109]⟩ : ByteArray), (⟨#[108, 101, 116]⟩ : ByteArray), (⟨#[101, 43]⟩ : ByteArray), (⟨#[101, 45]⟩ : ByteArray), (⟨#[115, 43]⟩ : ByteArray), (⟨#[115, 45]⟩ : ByteArray), (⟨#[110, 43]⟩ : ByteArray), (⟨#[110, 45]⟩ : ByteArray), (⟨#[98, 108, 107]⟩ : ByteArray), (⟨#[99, 111, 110, 116]⟩ : ByteArray), (⟨#[105, 110, 100]⟩ : ByteArray)] : List ByteArray)) (inner := [.string (⟨#[99, 97, 112]⟩ : ByteArray), .string (⟨#[99, 97, 112, 115]⟩ : ByteArray), .string (⟨#[110, 117, 109]⟩ : ByteArray), .string (⟨#[108, 101, 116]⟩ : ByteArray), .string (⟨#[101, 43]⟩ : ByteArray), .string (⟨#[101, 45]⟩ : ByteArray), .string (⟨#[115, 43]⟩ : ByteArray), .string (⟨#[115, 45]⟩ : ByteArray), .string (⟨#[110, 43]⟩ : ByteArray), .string (⟨#[110, 45]⟩ : ByteArray), .string (⟨#[98, 108, 107]⟩ : ByteArray), .string (⟨#[99, 111, 110, 116]⟩ : ByteArray), .string (⟨#[105, 110, 100]⟩ : ByteArray)]) (ok := fun _ => True) (okp := fun _ => True) ?hr ?hp (fun _ hk => hk) trivial (Below.refl _ _) (Nat.le_refl _) (by simp) ?_; (case hd => rfl); (case hg => rfl); (case hr => first | (go_simp; done) | (go_simp; rfl)); (case hp => exact (Reps.one (show Kd.M Kd.string _ _ _ (⟨#[99, 97, 112]⟩ : ByteArray) [.string (⟨#[99, 97, 112]⟩ : ByteArray)] from rfl) (Reps.one (show Kd.M Kd.string _ _ _ (⟨#[99, 97, 112, 115]⟩ : ByteArray) [.string (⟨#[99, 97, 112, 115]⟩ : ByteArray)] from rfl) (Reps.one (show Kd.M Kd.string _ _ _ (⟨#[110, 117, 109]⟩ : ByteArray) [.string (⟨#[110, 117, 109]⟩ : ByteArray)] from rfl) (Reps.one (show Kd.M Kd.string _ _ _ (⟨#[108, 101, 116]⟩ : ByteArray) [.string (⟨#[108, 101, 116]⟩ : ByteArray)] from rfl) (Reps.one (show Kd.M Kd.string _ _ _ (⟨#[101, 43]⟩ : ByteArray) [.string (⟨#[101, 43]⟩ : ByteArray)] from rfl) (Reps.one (show Kd.M Kd.string _ _ _ (⟨#[101, 45]⟩ : ByteArray) [.string (⟨#[101, 45]⟩ : ByteArray)] from rfl) (Reps.one (show Kd.M Kd.string _ _ _ (⟨#[115, 43]⟩ : ByteArray) [.string (⟨#[115, 43]⟩ : ByteArray)] from rfl) (Reps.one (show Kd.M Kd.string _ _ _ (⟨#[115, 45]⟩ : ByteArray) [.string (⟨#[115, 45]⟩ : ByteArray)] from rfl) (Reps.one (show Kd.M Kd.string _ _ _ (⟨#[110, 43]⟩ : ByteArray) [.string (⟨#[110, 43]⟩ : ByteArray)] from rfl) (Reps.one (show Kd.M Kd.string _ _ _ (⟨#[110, 45]⟩ : ByteArray) [.string (⟨#[110, 45]⟩ : ByteArray)] from rfl) (Reps.one (show Kd.M Kd.string _ _ _ (⟨#[98, 108, 107]⟩ : ByteArray) [.string (⟨#[98, 108, 107]⟩ : ByteArray)] from rfl) (Reps.one (show Kd.M Kd.string _ _ _ (⟨#[99, 111, 110, 116]⟩ : ByteArray) [.string (⟨#[99, 111, 110, 116]⟩ : ByteArray)] from rfl) (Reps.one (show Kd.M Kd.string _ _ _ (⟨#[105, 110, 100]⟩ : ByteArray) [.string (⟨#[105, 110, 100]⟩ : ByteArray)] from rfl) (Reps.none _ _))))))))))))))); intro v168 w1 ho2 hb hg_ hnew_; clear hg_ hnew_; (first | rw [← Ny167.out] at ho2 | (simp only [Int.reduceToNat] at ho2; rw [← Ny167.out] at ho2)); have n0_ := aK (Kd.R_lower ho2 (bSz (by repeat (first | (with_reducible first | exact HB.out | apply bAl | apply pbD | apply bD1) | exact HB.out)))); have n1_ := aK (bSp (by repeat (first | (with_reducible first | exact HB.out | apply bAl | apply pbD | apply bD1) | exact HB.out)) hb); clear HB; have HO169 := n0_; have HB := n1_; clear n0_ n1_; clear hb ho2))
 go_ret
 exact ⟨_, by first | rfl | (simp [eWn, eWs] <;> rfl) | (simp [*, eWn, eWs] <;> rfl), by (with_reducible repeat (first | apply Kd.R_alloc | apply Kd.R_drewN | apply Kd.R_drew)); exact HO169.out, by repeat (first | (with_reducible first | exact HB.out | apply bAl | apply pbD | apply bD1) | exact HB.out)⟩
def r1_Marks.f  : Option (ByteArray) := some (⟨#[46, 44, 59, 58, 33, 63, 39, 34, 45, 40, 41, 47]⟩ : ByteArray)
set_option maxHeartbeats 8000000 in
set_option maxRecDepth 100000 in
theorem r1_Marks.calls  (r : ByteArray) (w : World) (h : r1_Marks.f  = some r) :
  Calls Try.prog 38 #[] w fun e w' => e = .returned (.string r) ∧ Drawn0 w w' := by
 have H : (some (⟨#[46, 44, 59, 58, 33, 63, 39, 34, 45, 40, 41, 47]⟩ : ByteArray)) = some r := h
 clear h
 obtain rfl := oI H
 go_enter Try.func38, Try.ntmps38
 go_wp2
 go_ret
 exact ⟨by first | rfl | (simp; done) | (simp [*]; done), by repeat (first | exact Drawn0.refl _ | apply Drawn0.step)⟩
end Go.Proofs.Ytgjkjoocnkdckaa.PChk
