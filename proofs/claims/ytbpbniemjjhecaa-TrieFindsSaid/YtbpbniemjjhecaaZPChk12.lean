import Derived.Test.YtbpbniemjjhecaaZPChk0
import Derived.Test.YtbpbniemjjhecaaZPChk10
import Derived.Test.YtbpbniemjjhecaaZPChk11
namespace Go.Proofs.Ytbpbniemjjhecaa.PChk
open Go.RowKit Go.Proofs.Ytbpbniemjjhecaa.G Go.Proofs.YtbpbniemjjhecaaW.PrintWords Go.Proofs.YtbpbniemjjhecaaW.PrintLast Go.Proofs.YtbpbniemjjhecaaW.PrintMore
attribute [local go_sem] max2_int min2_int max_two min_two max_three min_three max_four min_four
set_option linter.unusedVariables false
set_option linter.unusedSimpArgs false
set_option maxHeartbeats 8000000
set_option maxRecDepth 100000
def r9_Alone.j0 : Nat → Bool → Int → ByteArray → ByteArray → Int → Int → Option (Bool)
 | 0, _, _, _, _, _, _ => none
 | k + 1, x26, x248000, x248001, x248002, x248003, x248004 => if x26 = true then (some false) else (if x248000 = 8 then (if x248001.toList = ([110, 117, 109] : List UInt8) then (if (x248002.size : Int) > 2 then (some false) else ((r8_May.f k x248000 x248001 x248002 x248003 x248004).bind fun t249 => (some t249))) else (if x248001.toList = ([108, 101, 116] : List UInt8) then (if (x248002.size : Int) > 2 then (some false) else ((r8_May.f k x248000 x248001 x248002 x248003 x248004).bind fun t250 => (some t250))) else ((r8_May.f k x248000 x248001 x248002 x248003 x248004).bind fun t251 => (some t251)))) else ((r8_May.f k x248000 x248001 x248002 x248003 x248004).bind fun t252 => (some t252)))
def r9_Alone.f (k : Nat) (a0_0 : Int) (a0_1 : ByteArray) (a0_2 : ByteArray) (a0_3 : Int) (a0_4 : Int) : Option (Bool) := (r9_Kept.f a0_0 a0_1 a0_2 a0_3 a0_4).bind fun t248 => (if t248 = true then (r9_Alone.j0 k ((a0_2.size : Int) != 1) a0_0 a0_1 a0_2 a0_3 a0_4) else (if a0_0 = 7 then (r9_Alone.j0 k ((a0_2.size : Int) != 1) a0_0 a0_1 a0_2 a0_3 a0_4) else (if a0_0 = 1 then (if (a0_1.size : Int) = 1 then (r9_Alone.j0 k ((a0_2.size : Int) != 1) a0_0 a0_1 a0_2 a0_3 a0_4) else (r9_Alone.j0 k false a0_0 a0_1 a0_2 a0_3 a0_4)) else (r9_Alone.j0 k false a0_0 a0_1 a0_2 a0_3 a0_4))))
theorem r9_Alone.calls (k : Nat) (a0_0 : Int) (a0_1 : ByteArray) (a0_2 : ByteArray) (a0_3 : Int) (a0_4 : Int) (r : Bool) (w : World) (h : r9_Alone.f k a0_0 a0_1 a0_2 a0_3 a0_4 = some r) :
  Calls Try.prog 46 #[.agg #[.int .i64 a0_0, .string a0_1, .string a0_2, .int .i64 a0_3, .int .i64 a0_4]] w fun e w' => e = .returned (.bool r) ∧ Below w.heap.size w w' := by
 have hu33 := Try.underlying33
 have HB := aK (Below.refl w.heap.size w)
 have H : ((r9_Kept.f a0_0 a0_1 a0_2 a0_3 a0_4).bind fun t248 => (if t248 = true then (r9_Alone.j0 k ((a0_2.size : Int) != 1) a0_0 a0_1 a0_2 a0_3 a0_4) else (if a0_0 = 7 then (r9_Alone.j0 k ((a0_2.size : Int) != 1) a0_0 a0_1 a0_2 a0_3 a0_4) else (if a0_0 = 1 then (if (a0_1.size : Int) = 1 then (r9_Alone.j0 k ((a0_2.size : Int) != 1) a0_0 a0_1 a0_2 a0_3 a0_4) else (r9_Alone.j0 k false a0_0 a0_1 a0_2 a0_3 a0_4)) else (r9_Alone.j0 k false a0_0 a0_1 a0_2 a0_3 a0_4))))) = some r := h
 clear h
 have HC2 := aK H
 clear H
 go_enter Try.func46, Try.ntmps46
 go_upto_region 1 with (first | ((with_reducible refine gate_dst (N := 1) rfl ?_); (try (refine gate_guard (by rfl) ?_; dsimp only)); refine box_event ?hg (N := 1) ?hd (cs := #[.int .i64 a0_0, .string a0_1, .string a0_2, .int .i64 a0_3, .int .i64 a0_4]) (t := 33) ?hr ?_; (case hd => rfl); (case hg => rfl); (case hr => first | (go_simp; done) | (go_simp; rfl)); intro gb247 hg w3 hbox hb; have n0_ := aK (bSp (by repeat (first | (with_reducible first | exact HB.out | apply bAl | apply pbD | apply bD1) | exact HB.out)) hb); have n1_ := aK (hbox); have n2_ := aK ((by rw [hg]; exact (bSz (by repeat (first | (with_reducible first | exact HB.out | apply bAl | apply pbD | apply bD1) | exact HB.out))) : w.heap.size ≤ gb247)); have n3_ := aK ((by rw [hg]; exact (bSz (by repeat (first | (with_reducible first | exact HB.out | apply bAl | apply pbD | apply bD1) | exact HB.out))) : w.heap.size ≤ gb247)); clear HB; have HB := n0_; have BK247 := n1_; have GW247 := n2_; have GE247 := n3_; clear n0_ n1_ n2_ n3_; clear hb hbox hg))
 (try simp only [Act.put, qSa, qS0, qS1])
 go_cut [26] (fun v26 wc => ∃ (kq : Nat) (x26_1 : Bool), v26 = .bool x26_1 ∧ Aside0 (r9_Alone.j0 kq x26_1 a0_0 a0_1 a0_2 a0_3 a0_4 = some r) ∧ Aside0 (kq ≤ k) ∧ Aside0 (wc.heap[gb247]? = some (.cells #[.int .i64 a0_0, .string a0_1, .string a0_2, .int .i64 a0_3, .int .i64 a0_4] 33 (0, 0))) ∧ Aside0 (Below w.heap.size w wc))
 case first =>
  have H := HC2.out
  clear HC2
  replace H := oB H
  obtain ⟨t248, A40, H⟩ := H
  try dsimp only at H
  have A4 := aK A40
  clear A40
  by_cases c5 : t248 = true
  rotate_left
  ·
   replace c5 := Bool.eq_false_iff.mpr c5
   subst c5
   have H1 : (if a0_0 = 7 then (r9_Alone.j0 k ((a0_2.size : Int) != 1) a0_0 a0_1 a0_2 a0_3 a0_4) else (if a0_0 = 1 then (if (a0_1.size : Int) = 1 then (r9_Alone.j0 k ((a0_2.size : Int) != 1) a0_0 a0_1 a0_2 a0_3 a0_4) else (r9_Alone.j0 k false a0_0 a0_1 a0_2 a0_3 a0_4)) else (r9_Alone.j0 k false a0_0 a0_1 a0_2 a0_3 a0_4))) = some r := by rw [if_neg (show ¬ (false = true) by decide)] at H; exact H
   clear H
   have H := H1
   clear H1
   by_cases c9 : a0_0 = 7
   rotate_left
   ·
    rw [if_neg c9] at H
    have c9b0 : (a0_0 == 7) = false := beq_eq_false_iff_ne.mpr c9
    have c9b1 : (a0_0 != 7) = true := bne_iff_ne.mpr c9
    (first | rw [c9b0] | (simp only [i64_w, i32_w]; rw [c9b0]) | skip)
    by_cases c13 : a0_0 = 1
    rotate_left
    ·
     rw [if_neg c13] at H
     have c13b0 : (a0_0 == 1) = false := beq_eq_false_iff_ne.mpr c13
     have c13b1 : (a0_0 != 1) = true := bne_iff_ne.mpr c13
     have H' := aK H
     clear H
     have hcz21_0 : w3.cell? ⟨gb247, 0, none⟩ = some (.int .i64 a0_0) := (kCe BK247.out 0).trans rfl
     have hcz21_1 : w3.cell? ⟨gb247, 1, none⟩ = some (.string a0_1) := (kCe BK247.out 1).trans rfl
     have hcz21_2 : w3.cell? ⟨gb247, 2, none⟩ = some (.string a0_2) := (kCe BK247.out 2).trans rfl
     have hcz21_3 : w3.cell? ⟨gb247, 3, none⟩ = some (.int .i64 a0_3) := (kCe BK247.out 3).trans rfl
     have hcz21_4 : w3.cell? ⟨gb247, 4, none⟩ = some (.int .i64 a0_4) := (kCe BK247.out 4).trans rfl
     go_wp2_with (first | ((with_reducible refine gate_callee (f := 68) rfl ?_); refine goesL_ (some 4) rfl rfl Try.func68 (by kernel_rfl) rfl #[.agg #[.int .i64 a0_0, .string a0_1, .string a0_2, .int .i64 a0_3, .int .i64 a0_4]] rfl (by (try simp only [qM0, qM1, qM2]); first | done | rfl | (simp only [qD0, qD1]; rfl)) ?_; (with_reducible refine (r9_Kept.calls a0_0 a0_1 a0_2 a0_3 a0_4 false _ A4.out).mono ?_); rintro e w22 ⟨rfl, hb⟩; refine ⟨_, rfl, ?_⟩; have n0_ := aK (kBe (g := gb247) (o := .cells #[.int .i64 a0_0, .string a0_1, .string a0_2, .int .i64 a0_3, .int .i64 a0_4] 33 (0, 0)) (by (with_reducible repeat (first | refine kDN ?_ _ | refine kDr ?_ | refine kAl ?_ _)); exact BK247.out) hb); have n1_ := aK (bSp (by repeat (first | (with_reducible first | exact HB.out | apply bAl | apply pbD | apply bD1 | refine bSt ?_ GE247.out) | exact HB.out)) hb); clear BK247; clear HB; have BK247 := n0_; have HB := n1_; clear n0_ n1_; (try clear hb); (try clear hb2); (try clear hk); (try clear hi); have hcz23_0 : w22.cell? ⟨gb247, 0, none⟩ = some (.int .i64 a0_0) := (kCe BK247.out 0).trans rfl; have hcz23_1 : w22.cell? ⟨gb247, 1, none⟩ = some (.string a0_1) := (kCe BK247.out 1).trans rfl; have hcz23_2 : w22.cell? ⟨gb247, 2, none⟩ = some (.string a0_2) := (kCe BK247.out 2).trans rfl; have hcz23_3 : w22.cell? ⟨gb247, 3, none⟩ = some (.int .i64 a0_3) := (kCe BK247.out 3).trans rfl; have hcz23_4 : w22.cell? ⟨gb247, 4, none⟩ = some (.int .i64 a0_4) := (kCe BK247.out 4).trans rfl))
     go_meet
     case rel => exact ⟨_, (false), (by first | rfl | (simp; done) | (simp [*]; done)), H', ⟨by first | omega | exact Nat.le_refl _⟩, ⟨by (with_reducible repeat (first | refine kDN ?_ _ | refine kDr ?_ | refine kAl ?_ _)); exact BK247.out⟩, ⟨by repeat (first | (with_reducible first | exact HB.out | apply bAl | apply pbD | apply bD1 | refine bSt ?_ GE247.out) | exact HB.out)⟩⟩
    rw [if_pos c13] at H
    have c13b0 : (a0_0 == 1) = true := beq_iff_eq.mpr c13
    have c13b1 : (a0_0 != 1) = false := bne_eq_false_iff_eq.mpr c13
    clear c13
    by_cases c14 : (a0_1.size : Int) = 1
    rotate_left
    ·
     rw [if_neg c14] at H
     have c14b0 : ((a0_1.size : Int) == 1) = false := beq_eq_false_iff_ne.mpr c14
     have c14b1 : ((a0_1.size : Int) != 1) = true := bne_iff_ne.mpr c14
     have H' := aK H
     clear H
     have hcz18_0 : w3.cell? ⟨gb247, 0, none⟩ = some (.int .i64 a0_0) := (kCe BK247.out 0).trans rfl
     have hcz18_1 : w3.cell? ⟨gb247, 1, none⟩ = some (.string a0_1) := (kCe BK247.out 1).trans rfl
     have hcz18_2 : w3.cell? ⟨gb247, 2, none⟩ = some (.string a0_2) := (kCe BK247.out 2).trans rfl
     have hcz18_3 : w3.cell? ⟨gb247, 3, none⟩ = some (.int .i64 a0_3) := (kCe BK247.out 3).trans rfl
     have hcz18_4 : w3.cell? ⟨gb247, 4, none⟩ = some (.int .i64 a0_4) := (kCe BK247.out 4).trans rfl
     go_wp2_with (first | ((with_reducible refine gate_callee (f := 68) rfl ?_); refine goesL_ (some 4) rfl rfl Try.func68 (by kernel_rfl) rfl #[.agg #[.int .i64 a0_0, .string a0_1, .string a0_2, .int .i64 a0_3, .int .i64 a0_4]] rfl (by (try simp only [qM0, qM1, qM2]); first | done | rfl | (simp only [qD0, qD1]; rfl)) ?_; (with_reducible refine (r9_Kept.calls a0_0 a0_1 a0_2 a0_3 a0_4 false _ A4.out).mono ?_); rintro e w19 ⟨rfl, hb⟩; refine ⟨_, rfl, ?_⟩; have n0_ := aK (kBe (g := gb247) (o := .cells #[.int .i64 a0_0, .string a0_1, .string a0_2, .int .i64 a0_3, .int .i64 a0_4] 33 (0, 0)) (by (with_reducible repeat (first | refine kDN ?_ _ | refine kDr ?_ | refine kAl ?_ _)); exact BK247.out) hb); have n1_ := aK (bSp (by repeat (first | (with_reducible first | exact HB.out | apply bAl | apply pbD | apply bD1 | refine bSt ?_ GE247.out) | exact HB.out)) hb); clear BK247; clear HB; have BK247 := n0_; have HB := n1_; clear n0_ n1_; (try clear hb); (try clear hb2); (try clear hk); (try clear hi); have hcz20_0 : w19.cell? ⟨gb247, 0, none⟩ = some (.int .i64 a0_0) := (kCe BK247.out 0).trans rfl; have hcz20_1 : w19.cell? ⟨gb247, 1, none⟩ = some (.string a0_1) := (kCe BK247.out 1).trans rfl; have hcz20_2 : w19.cell? ⟨gb247, 2, none⟩ = some (.string a0_2) := (kCe BK247.out 2).trans rfl; have hcz20_3 : w19.cell? ⟨gb247, 3, none⟩ = some (.int .i64 a0_3) := (kCe BK247.out 3).trans rfl; have hcz20_4 : w19.cell? ⟨gb247, 4, none⟩ = some (.int .i64 a0_4) := (kCe BK247.out 4).trans rfl))
     go_meet
     case rel => exact ⟨_, (false), (by first | rfl | (simp; done) | (simp [*]; done)), H', ⟨by first | omega | exact Nat.le_refl _⟩, ⟨by (with_reducible repeat (first | refine kDN ?_ _ | refine kDr ?_ | refine kAl ?_ _)); exact BK247.out⟩, ⟨by repeat (first | (with_reducible first | exact HB.out | apply bAl | apply pbD | apply bD1 | refine bSt ?_ GE247.out) | exact HB.out)⟩⟩
    rw [if_pos c14] at H
    have c14b0 : ((a0_1.size : Int) == 1) = true := beq_iff_eq.mpr c14
    have c14b1 : ((a0_1.size : Int) != 1) = false := bne_eq_false_iff_eq.mpr c14
    clear c14
    have H' := aK H
    clear H
    have hcz15_0 : w3.cell? ⟨gb247, 0, none⟩ = some (.int .i64 a0_0) := (kCe BK247.out 0).trans rfl
    have hcz15_1 : w3.cell? ⟨gb247, 1, none⟩ = some (.string a0_1) := (kCe BK247.out 1).trans rfl
    have hcz15_2 : w3.cell? ⟨gb247, 2, none⟩ = some (.string a0_2) := (kCe BK247.out 2).trans rfl
    have hcz15_3 : w3.cell? ⟨gb247, 3, none⟩ = some (.int .i64 a0_3) := (kCe BK247.out 3).trans rfl
    have hcz15_4 : w3.cell? ⟨gb247, 4, none⟩ = some (.int .i64 a0_4) := (kCe BK247.out 4).trans rfl
    go_wp2_with (first | ((with_reducible refine gate_callee (f := 68) rfl ?_); refine goesL_ (some 4) rfl rfl Try.func68 (by kernel_rfl) rfl #[.agg #[.int .i64 a0_0, .string a0_1, .string a0_2, .int .i64 a0_3, .int .i64 a0_4]] rfl (by (try simp only [qM0, qM1, qM2]); first | done | rfl | (simp only [qD0, qD1]; rfl)) ?_; (with_reducible refine (r9_Kept.calls a0_0 a0_1 a0_2 a0_3 a0_4 false _ A4.out).mono ?_); rintro e w16 ⟨rfl, hb⟩; refine ⟨_, rfl, ?_⟩; have n0_ := aK (kBe (g := gb247) (o := .cells #[.int .i64 a0_0, .string a0_1, .string a0_2, .int .i64 a0_3, .int .i64 a0_4] 33 (0, 0)) (by (with_reducible repeat (first | refine kDN ?_ _ | refine kDr ?_ | refine kAl ?_ _)); exact BK247.out) hb); have n1_ := aK (bSp (by repeat (first | (with_reducible first | exact HB.out | apply bAl | apply pbD | apply bD1 | refine bSt ?_ GE247.out) | exact HB.out)) hb); clear BK247; clear HB; have BK247 := n0_; have HB := n1_; clear n0_ n1_; (try clear hb); (try clear hb2); (try clear hk); (try clear hi); have hcz17_0 : w16.cell? ⟨gb247, 0, none⟩ = some (.int .i64 a0_0) := (kCe BK247.out 0).trans rfl; have hcz17_1 : w16.cell? ⟨gb247, 1, none⟩ = some (.string a0_1) := (kCe BK247.out 1).trans rfl; have hcz17_2 : w16.cell? ⟨gb247, 2, none⟩ = some (.string a0_2) := (kCe BK247.out 2).trans rfl; have hcz17_3 : w16.cell? ⟨gb247, 3, none⟩ = some (.int .i64 a0_3) := (kCe BK247.out 3).trans rfl; have hcz17_4 : w16.cell? ⟨gb247, 4, none⟩ = some (.int .i64 a0_4) := (kCe BK247.out 4).trans rfl))
    go_meet
    case rel => exact ⟨_, (((a0_2.size : Int) != 1)), (by first | rfl | (simp; done) | (simp [*]; done)), H', ⟨by first | omega | exact Nat.le_refl _⟩, ⟨by (with_reducible repeat (first | refine kDN ?_ _ | refine kDr ?_ | refine kAl ?_ _)); exact BK247.out⟩, ⟨by repeat (first | (with_reducible first | exact HB.out | apply bAl | apply pbD | apply bD1 | refine bSt ?_ GE247.out) | exact HB.out)⟩⟩
   rw [if_pos c9] at H
   have c9b0 : (a0_0 == 7) = true := beq_iff_eq.mpr c9
   have c9b1 : (a0_0 != 7) = false := bne_eq_false_iff_eq.mpr c9
   clear c9
   (first | rw [c9b0] | (simp only [i64_w, i32_w]; rw [c9b0]) | skip)
   have H' := aK H
   clear H
   have hcz10_0 : w3.cell? ⟨gb247, 0, none⟩ = some (.int .i64 a0_0) := (kCe BK247.out 0).trans rfl
   have hcz10_1 : w3.cell? ⟨gb247, 1, none⟩ = some (.string a0_1) := (kCe BK247.out 1).trans rfl
   have hcz10_2 : w3.cell? ⟨gb247, 2, none⟩ = some (.string a0_2) := (kCe BK247.out 2).trans rfl
   have hcz10_3 : w3.cell? ⟨gb247, 3, none⟩ = some (.int .i64 a0_3) := (kCe BK247.out 3).trans rfl
   have hcz10_4 : w3.cell? ⟨gb247, 4, none⟩ = some (.int .i64 a0_4) := (kCe BK247.out 4).trans rfl
   go_wp2_with (first | ((with_reducible refine gate_callee (f := 68) rfl ?_); refine goesL_ (some 4) rfl rfl Try.func68 (by kernel_rfl) rfl #[.agg #[.int .i64 a0_0, .string a0_1, .string a0_2, .int .i64 a0_3, .int .i64 a0_4]] rfl (by (try simp only [qM0, qM1, qM2]); first | done | rfl | (simp only [qD0, qD1]; rfl)) ?_; (with_reducible refine (r9_Kept.calls a0_0 a0_1 a0_2 a0_3 a0_4 false _ A4.out).mono ?_); rintro e w11 ⟨rfl, hb⟩; refine ⟨_, rfl, ?_⟩; have n0_ := aK (kBe (g := gb247) (o := .cells #[.int .i64 a0_0, .string a0_1, .string a0_2, .int .i64 a0_3, .int .i64 a0_4] 33 (0, 0)) (by (with_reducible repeat (first | refine kDN ?_ _ | refine kDr ?_ | refine kAl ?_ _)); exact BK247.out) hb); have n1_ := aK (bSp (by repeat (first | (with_reducible first | exact HB.out | apply bAl | apply pbD | apply bD1 | refine bSt ?_ GE247.out) | exact HB.out)) hb); clear BK247; clear HB; have BK247 := n0_; have HB := n1_; clear n0_ n1_; (try clear hb); (try clear hb2); (try clear hk); (try clear hi); have hcz12_0 : w11.cell? ⟨gb247, 0, none⟩ = some (.int .i64 a0_0) := (kCe BK247.out 0).trans rfl; have hcz12_1 : w11.cell? ⟨gb247, 1, none⟩ = some (.string a0_1) := (kCe BK247.out 1).trans rfl; have hcz12_2 : w11.cell? ⟨gb247, 2, none⟩ = some (.string a0_2) := (kCe BK247.out 2).trans rfl; have hcz12_3 : w11.cell? ⟨gb247, 3, none⟩ = some (.int .i64 a0_3) := (kCe BK247.out 3).trans rfl; have hcz12_4 : w11.cell? ⟨gb247, 4, none⟩ = some (.int .i64 a0_4) := (kCe BK247.out 4).trans rfl))
   go_meet
   case rel => exact ⟨_, (((a0_2.size : Int) != 1)), (by first | rfl | (simp; done) | (simp [*]; done)), H', ⟨by first | omega | exact Nat.le_refl _⟩, ⟨by (with_reducible repeat (first | refine kDN ?_ _ | refine kDr ?_ | refine kAl ?_ _)); exact BK247.out⟩, ⟨by repeat (first | (with_reducible first | exact HB.out | apply bAl | apply pbD | apply bD1 | refine bSt ?_ GE247.out) | exact HB.out)⟩⟩
  subst c5
  have H1 : (r9_Alone.j0 k ((a0_2.size : Int) != 1) a0_0 a0_1 a0_2 a0_3 a0_4) = some r := by rw [if_pos rfl] at H; exact H
  clear H
  have H := H1
  clear H1
  have H' := aK H
  clear H
  have hcz6_0 : w3.cell? ⟨gb247, 0, none⟩ = some (.int .i64 a0_0) := (kCe BK247.out 0).trans rfl
  have hcz6_1 : w3.cell? ⟨gb247, 1, none⟩ = some (.string a0_1) := (kCe BK247.out 1).trans rfl
  have hcz6_2 : w3.cell? ⟨gb247, 2, none⟩ = some (.string a0_2) := (kCe BK247.out 2).trans rfl
  have hcz6_3 : w3.cell? ⟨gb247, 3, none⟩ = some (.int .i64 a0_3) := (kCe BK247.out 3).trans rfl
  have hcz6_4 : w3.cell? ⟨gb247, 4, none⟩ = some (.int .i64 a0_4) := (kCe BK247.out 4).trans rfl
  go_wp2_with (first | ((with_reducible refine gate_callee (f := 68) rfl ?_); refine goesL_ (some 4) rfl rfl Try.func68 (by kernel_rfl) rfl #[.agg #[.int .i64 a0_0, .string a0_1, .string a0_2, .int .i64 a0_3, .int .i64 a0_4]] rfl (by (try simp only [qM0, qM1, qM2]); first | done | rfl | (simp only [qD0, qD1]; rfl)) ?_; (with_reducible refine (r9_Kept.calls a0_0 a0_1 a0_2 a0_3 a0_4 true _ A4.out).mono ?_); rintro e w7 ⟨rfl, hb⟩; refine ⟨_, rfl, ?_⟩; have n0_ := aK (kBe (g := gb247) (o := .cells #[.int .i64 a0_0, .string a0_1, .string a0_2, .int .i64 a0_3, .int .i64 a0_4] 33 (0, 0)) (by (with_reducible repeat (first | refine kDN ?_ _ | refine kDr ?_ | refine kAl ?_ _)); exact BK247.out) hb); have n1_ := aK (bSp (by repeat (first | (with_reducible first | exact HB.out | apply bAl | apply pbD | apply bD1 | refine bSt ?_ GE247.out) | exact HB.out)) hb); clear BK247; clear HB; have BK247 := n0_; have HB := n1_; clear n0_ n1_; (try clear hb); (try clear hb2); (try clear hk); (try clear hi); have hcz8_0 : w7.cell? ⟨gb247, 0, none⟩ = some (.int .i64 a0_0) := (kCe BK247.out 0).trans rfl; have hcz8_1 : w7.cell? ⟨gb247, 1, none⟩ = some (.string a0_1) := (kCe BK247.out 1).trans rfl; have hcz8_2 : w7.cell? ⟨gb247, 2, none⟩ = some (.string a0_2) := (kCe BK247.out 2).trans rfl; have hcz8_3 : w7.cell? ⟨gb247, 3, none⟩ = some (.int .i64 a0_3) := (kCe BK247.out 3).trans rfl; have hcz8_4 : w7.cell? ⟨gb247, 4, none⟩ = some (.int .i64 a0_4) := (kCe BK247.out 4).trans rfl))
  go_meet
  case rel => exact ⟨_, (((a0_2.size : Int) != 1)), (by first | rfl | (simp; done) | (simp [*]; done)), H', ⟨by first | omega | exact Nat.le_refl _⟩, ⟨by (with_reducible repeat (first | refine kDN ?_ _ | refine kDr ?_ | refine kAl ?_ _)); exact BK247.out⟩, ⟨by repeat (first | (with_reducible first | exact HB.out | apply bAl | apply pbD | apply bD1 | refine bSt ?_ GE247.out) | exact HB.out)⟩⟩
 case rest =>
  clear HC2
  try clear c1
  try clear p2
  try clear c4
  try clear c5
  try clear c6
  try clear c9
  try clear c9b0
  try clear c9b1
  try clear c13
  try clear c13b0
  try clear c13b1
  try clear c14
  try clear c14b0
  try clear c14b1
  try clear hcz10_0
  try clear hcz10_1
  try clear hcz10_2
  try clear hcz10_3
  try clear hcz10_4
  try clear hcz12_0
  try clear hcz12_1
  try clear hcz12_2
  try clear hcz12_3
  try clear hcz12_4
  try clear hcz15_0
  try clear hcz15_1
  try clear hcz15_2
  try clear hcz15_3
  try clear hcz15_4
  try clear hcz17_0
  try clear hcz17_1
  try clear hcz17_2
  try clear hcz17_3
  try clear hcz17_4
  try clear hcz18_0
  try clear hcz18_1
  try clear hcz18_2
  try clear hcz18_3
  try clear hcz18_4
  try clear hcz20_0
  try clear hcz20_1
  try clear hcz20_2
  try clear hcz20_3
  try clear hcz20_4
  try clear hcz21_0
  try clear hcz21_1
  try clear hcz21_2
  try clear hcz21_3
  try clear hcz21_4
  try clear hcz23_0
  try clear hcz23_1
  try clear hcz23_2
  try clear hcz23_3
  try clear hcz23_4
  try clear hcz6_0
  try clear hcz6_1
  try clear hcz6_2
  try clear hcz6_3
  try clear hcz6_4
  try clear hcz8_0
  try clear hcz8_1
  try clear hcz8_2
  try clear hcz8_3
  try clear hcz8_4
  obtain ⟨kq, x26_1, rfl, HA, HJ1, BK247, HB⟩ := hcut
  cases kq with
  | zero => exact absurd HA.out (by simp [r9_Alone.j0])
  | succ kj1 =>
   have H := HA.out
   clear HA
   simp only [r9_Alone.j0] at H
   by_cases c24 : x26_1 = true
   rotate_left
   ·
    replace c24 := Bool.eq_false_iff.mpr c24
    subst c24
    have H1 : (if a0_0 = 8 then (if a0_1.toList = ([110, 117, 109] : List UInt8) then (if (a0_2.size : Int) > 2 then (some false) else ((r8_May.f kj1 a0_0 a0_1 a0_2 a0_3 a0_4).bind fun t249 => (some t249))) else (if a0_1.toList = ([108, 101, 116] : List UInt8) then (if (a0_2.size : Int) > 2 then (some false) else ((r8_May.f kj1 a0_0 a0_1 a0_2 a0_3 a0_4).bind fun t250 => (some t250))) else ((r8_May.f kj1 a0_0 a0_1 a0_2 a0_3 a0_4).bind fun t251 => (some t251)))) else ((r8_May.f kj1 a0_0 a0_1 a0_2 a0_3 a0_4).bind fun t252 => (some t252))) = some r := by rw [if_neg (show ¬ (false = true) by decide)] at H; exact H
    clear H
    have H := H1
    clear H1
    by_cases c25 : a0_0 = 8
    rotate_left
    ·
     rw [if_neg c25] at H
     have c25b0 : (a0_0 == 8) = false := beq_eq_false_iff_ne.mpr c25
     have c25b1 : (a0_0 != 8) = true := bne_iff_ne.mpr c25
     replace H := oB H
     obtain ⟨t252, A410, H⟩ := H
     replace H : (some t252) = some r := H
     have A41 := aK A410
     clear A410
     obtain rfl := oI H
     have hcz42_0 : wc.cell? ⟨gb247, 0, none⟩ = some (.int .i64 a0_0) := (kCe BK247.out 0).trans rfl
     have hcz42_1 : wc.cell? ⟨gb247, 1, none⟩ = some (.string a0_1) := (kCe BK247.out 1).trans rfl
     have hcz42_2 : wc.cell? ⟨gb247, 2, none⟩ = some (.string a0_2) := (kCe BK247.out 2).trans rfl
     have hcz42_3 : wc.cell? ⟨gb247, 3, none⟩ = some (.int .i64 a0_3) := (kCe BK247.out 3).trans rfl
     have hcz42_4 : wc.cell? ⟨gb247, 4, none⟩ = some (.int .i64 a0_4) := (kCe BK247.out 4).trans rfl
     go_wp2_with (first | ((with_reducible refine gate_callee (f := 69) rfl ?_); refine goesL_ (some 47) rfl rfl Try.func69 (by kernel_rfl) rfl #[.agg #[.int .i64 a0_0, .string a0_1, .string a0_2, .int .i64 a0_3, .int .i64 a0_4]] rfl (by (try simp only [qM0, qM1, qM2]); first | done | rfl | (simp only [qD0, qD1]; rfl)) ?_; (with_reducible refine (r8_May.calls kj1 a0_0 a0_1 a0_2 a0_3 a0_4 t252 _ A41.out).mono ?_); rintro e w43 ⟨rfl, hb⟩; refine ⟨_, rfl, ?_⟩; have n0_ := aK (kBe (g := gb247) (o := .cells #[.int .i64 a0_0, .string a0_1, .string a0_2, .int .i64 a0_3, .int .i64 a0_4] 33 (0, 0)) (by (with_reducible repeat (first | refine kDN ?_ _ | refine kDr ?_ | refine kAl ?_ _)); exact BK247.out) hb); have n1_ := aK (bSp (by repeat (first | (with_reducible first | exact HB.out | apply bAl | apply pbD | apply bD1 | refine bSt ?_ GE247.out) | exact HB.out)) hb); clear BK247; clear HB; have BK247 := n0_; have HB := n1_; clear n0_ n1_; (try clear hb); (try clear hb2); (try clear hk); (try clear hi)))
     go_ret
     exact ⟨by first | rfl | (simp [eWn, eWs] <;> rfl) | (simp [*, eWn, eWs] <;> rfl), by repeat (first | (with_reducible first | exact HB.out | apply bAl | apply pbD | apply bD1 | refine bSt ?_ GE247.out) | exact HB.out)⟩
    rw [if_pos c25] at H
    have c25b0 : (a0_0 == 8) = true := beq_iff_eq.mpr c25
    have c25b1 : (a0_0 != 8) = false := bne_eq_false_iff_eq.mpr c25
    clear c25
    by_cases c26 : a0_1.toList = ([110, 117, 109] : List UInt8)
    rotate_left
    ·
     rw [if_neg c26] at H
     have c26b0 : (a0_1.toList == ([110, 117, 109] : List UInt8)) = false := beq_eq_false_iff_ne.mpr c26
     have c26b1 : (a0_1.toList != ([110, 117, 109] : List UInt8)) = true := bne_iff_ne.mpr c26
     by_cases c32 : a0_1.toList = ([108, 101, 116] : List UInt8)
     rotate_left
     ·
      rw [if_neg c32] at H
      have c32b0 : (a0_1.toList == ([108, 101, 116] : List UInt8)) = false := beq_eq_false_iff_ne.mpr c32
      have c32b1 : (a0_1.toList != ([108, 101, 116] : List UInt8)) = true := bne_iff_ne.mpr c32
      replace H := oB H
      obtain ⟨t251, A380, H⟩ := H
      replace H : (some t251) = some r := H
      have A38 := aK A380
      clear A380
      obtain rfl := oI H
      have hcz39_0 : wc.cell? ⟨gb247, 0, none⟩ = some (.int .i64 a0_0) := (kCe BK247.out 0).trans rfl
      have hcz39_1 : wc.cell? ⟨gb247, 1, none⟩ = some (.string a0_1) := (kCe BK247.out 1).trans rfl
      have hcz39_2 : wc.cell? ⟨gb247, 2, none⟩ = some (.string a0_2) := (kCe BK247.out 2).trans rfl
      have hcz39_3 : wc.cell? ⟨gb247, 3, none⟩ = some (.int .i64 a0_3) := (kCe BK247.out 3).trans rfl
      have hcz39_4 : wc.cell? ⟨gb247, 4, none⟩ = some (.int .i64 a0_4) := (kCe BK247.out 4).trans rfl
      go_wp2_with (first | ((with_reducible refine gate_callee (f := 69) rfl ?_); refine goesL_ (some 47) rfl rfl Try.func69 (by kernel_rfl) rfl #[.agg #[.int .i64 a0_0, .string a0_1, .string a0_2, .int .i64 a0_3, .int .i64 a0_4]] rfl (by (try simp only [qM0, qM1, qM2]); first | done | rfl | (simp only [qD0, qD1]; rfl)) ?_; (with_reducible refine (r8_May.calls kj1 a0_0 a0_1 a0_2 a0_3 a0_4 t251 _ A38.out).mono ?_); rintro e w40 ⟨rfl, hb⟩; refine ⟨_, rfl, ?_⟩; have n0_ := aK (kBe (g := gb247) (o := .cells #[.int .i64 a0_0, .string a0_1, .string a0_2, .int .i64 a0_3, .int .i64 a0_4] 33 (0, 0)) (by (with_reducible repeat (first | refine kDN ?_ _ | refine kDr ?_ | refine kAl ?_ _)); exact BK247.out) hb); have n1_ := aK (bSp (by repeat (first | (with_reducible first | exact HB.out | apply bAl | apply pbD | apply bD1 | refine bSt ?_ GE247.out) | exact HB.out)) hb); clear BK247; clear HB; have BK247 := n0_; have HB := n1_; clear n0_ n1_; (try clear hb); (try clear hb2); (try clear hk); (try clear hi)))
      go_ret
      exact ⟨by first | rfl | (simp [eWn, eWs] <;> rfl) | (simp [*, eWn, eWs] <;> rfl), by repeat (first | (with_reducible first | exact HB.out | apply bAl | apply pbD | apply bD1 | refine bSt ?_ GE247.out) | exact HB.out)⟩
     rw [if_pos c32] at H
     have c32b0 : (a0_1.toList == ([108, 101, 116] : List UInt8)) = true := beq_iff_eq.mpr c32
     have c32b1 : (a0_1.toList != ([108, 101, 116] : List UInt8)) = false := bne_eq_false_iff_eq.mpr c32
     clear c32
     by_cases c33 : (a0_2.size : Int) > 2
     rotate_left
     ·
      rw [if_neg c33] at H
      have c33b0 : decide (2 < (a0_2.size : Int)) = false := decide_eq_false c33
      have c33b1 : decide (2 < a0_2.size) = false := decide_eq_false (by omega)
      clear c33
      replace H := oB H
      obtain ⟨t250, A350, H⟩ := H
      replace H : (some t250) = some r := H
      have A35 := aK A350
      clear A350
      obtain rfl := oI H
      have hcz36_0 : wc.cell? ⟨gb247, 0, none⟩ = some (.int .i64 a0_0) := (kCe BK247.out 0).trans rfl
      have hcz36_1 : wc.cell? ⟨gb247, 1, none⟩ = some (.string a0_1) := (kCe BK247.out 1).trans rfl
      have hcz36_2 : wc.cell? ⟨gb247, 2, none⟩ = some (.string a0_2) := (kCe BK247.out 2).trans rfl
      have hcz36_3 : wc.cell? ⟨gb247, 3, none⟩ = some (.int .i64 a0_3) := (kCe BK247.out 3).trans rfl
      have hcz36_4 : wc.cell? ⟨gb247, 4, none⟩ = some (.int .i64 a0_4) := (kCe BK247.out 4).trans rfl
      go_wp2_with (first | ((with_reducible refine gate_callee (f := 69) rfl ?_); refine goesL_ (some 47) rfl rfl Try.func69 (by kernel_rfl) rfl #[.agg #[.int .i64 a0_0, .string a0_1, .string a0_2, .int .i64 a0_3, .int .i64 a0_4]] rfl (by (try simp only [qM0, qM1, qM2]); first | done | rfl | (simp only [qD0, qD1]; rfl)) ?_; (with_reducible refine (r8_May.calls kj1 a0_0 a0_1 a0_2 a0_3 a0_4 t250 _ A35.out).mono ?_); rintro e w37 ⟨rfl, hb⟩; refine ⟨_, rfl, ?_⟩; have n0_ := aK (kBe (g := gb247) (o := .cells #[.int .i64 a0_0, .string a0_1, .string a0_2, .int .i64 a0_3, .int .i64 a0_4] 33 (0, 0)) (by (with_reducible repeat (first | refine kDN ?_ _ | refine kDr ?_ | refine kAl ?_ _)); exact BK247.out) hb); have n1_ := aK (bSp (by repeat (first | (with_reducible first | exact HB.out | apply bAl | apply pbD | apply bD1 | refine bSt ?_ GE247.out) | exact HB.out)) hb); clear BK247; clear HB; have BK247 := n0_; have HB := n1_; clear n0_ n1_; (try clear hb); (try clear hb2); (try clear hk); (try clear hi)))
      go_ret
      exact ⟨by first | rfl | (simp [eWn, eWs] <;> rfl) | (simp [*, eWn, eWs] <;> rfl), by repeat (first | (with_reducible first | exact HB.out | apply bAl | apply pbD | apply bD1 | refine bSt ?_ GE247.out) | exact HB.out)⟩
     rw [if_pos c33] at H
     have c33b0 : decide (2 < (a0_2.size : Int)) = true := decide_eq_true c33
     have c33b1 : decide (2 < a0_2.size) = true := decide_eq_true (by omega)
     clear c33
     obtain rfl := oI H
     have hcz34_0 : wc.cell? ⟨gb247, 0, none⟩ = some (.int .i64 a0_0) := (kCe BK247.out 0).trans rfl
     have hcz34_1 : wc.cell? ⟨gb247, 1, none⟩ = some (.string a0_1) := (kCe BK247.out 1).trans rfl
     have hcz34_2 : wc.cell? ⟨gb247, 2, none⟩ = some (.string a0_2) := (kCe BK247.out 2).trans rfl
     have hcz34_3 : wc.cell? ⟨gb247, 3, none⟩ = some (.int .i64 a0_3) := (kCe BK247.out 3).trans rfl
     have hcz34_4 : wc.cell? ⟨gb247, 4, none⟩ = some (.int .i64 a0_4) := (kCe BK247.out 4).trans rfl
     go_wp2
     go_ret
     exact ⟨by first | rfl | (simp [eWn, eWs] <;> rfl) | (simp [*, eWn, eWs] <;> rfl), by repeat (first | (with_reducible first | exact HB.out | apply bAl | apply pbD | apply bD1 | refine bSt ?_ GE247.out) | exact HB.out)⟩
    rw [if_pos c26] at H
    have c26b0 : (a0_1.toList == ([110, 117, 109] : List UInt8)) = true := beq_iff_eq.mpr c26
    have c26b1 : (a0_1.toList != ([110, 117, 109] : List UInt8)) = false := bne_eq_false_iff_eq.mpr c26
    clear c26
    by_cases c27 : (a0_2.size : Int) > 2
    rotate_left
    ·
     rw [if_neg c27] at H
     have c27b0 : decide (2 < (a0_2.size : Int)) = false := decide_eq_false c27
     have c27b1 : decide (2 < a0_2.size) = false := decide_eq_false (by omega)
     clear c27
     replace H := oB H
     obtain ⟨t249, A290, H⟩ := H
     replace H : (some t249) = some r := H
     have A29 := aK A290
     clear A290
     obtain rfl := oI H
     have hcz30_0 : wc.cell? ⟨gb247, 0, none⟩ = some (.int .i64 a0_0) := (kCe BK247.out 0).trans rfl
     have hcz30_1 : wc.cell? ⟨gb247, 1, none⟩ = some (.string a0_1) := (kCe BK247.out 1).trans rfl
     have hcz30_2 : wc.cell? ⟨gb247, 2, none⟩ = some (.string a0_2) := (kCe BK247.out 2).trans rfl
     have hcz30_3 : wc.cell? ⟨gb247, 3, none⟩ = some (.int .i64 a0_3) := (kCe BK247.out 3).trans rfl
     have hcz30_4 : wc.cell? ⟨gb247, 4, none⟩ = some (.int .i64 a0_4) := (kCe BK247.out 4).trans rfl
     go_wp2_with (first | ((with_reducible refine gate_callee (f := 69) rfl ?_); refine goesL_ (some 47) rfl rfl Try.func69 (by kernel_rfl) rfl #[.agg #[.int .i64 a0_0, .string a0_1, .string a0_2, .int .i64 a0_3, .int .i64 a0_4]] rfl (by (try simp only [qM0, qM1, qM2]); first | done | rfl | (simp only [qD0, qD1]; rfl)) ?_; (with_reducible refine (r8_May.calls kj1 a0_0 a0_1 a0_2 a0_3 a0_4 t249 _ A29.out).mono ?_); rintro e w31 ⟨rfl, hb⟩; refine ⟨_, rfl, ?_⟩; have n0_ := aK (kBe (g := gb247) (o := .cells #[.int .i64 a0_0, .string a0_1, .string a0_2, .int .i64 a0_3, .int .i64 a0_4] 33 (0, 0)) (by (with_reducible repeat (first | refine kDN ?_ _ | refine kDr ?_ | refine kAl ?_ _)); exact BK247.out) hb); have n1_ := aK (bSp (by repeat (first | (with_reducible first | exact HB.out | apply bAl | apply pbD | apply bD1 | refine bSt ?_ GE247.out) | exact HB.out)) hb); clear BK247; clear HB; have BK247 := n0_; have HB := n1_; clear n0_ n1_; (try clear hb); (try clear hb2); (try clear hk); (try clear hi)))
     go_ret
     exact ⟨by first | rfl | (simp [eWn, eWs] <;> rfl) | (simp [*, eWn, eWs] <;> rfl), by repeat (first | (with_reducible first | exact HB.out | apply bAl | apply pbD | apply bD1 | refine bSt ?_ GE247.out) | exact HB.out)⟩
    rw [if_pos c27] at H
    have c27b0 : decide (2 < (a0_2.size : Int)) = true := decide_eq_true c27
    have c27b1 : decide (2 < a0_2.size) = true := decide_eq_true (by omega)
    clear c27
    obtain rfl := oI H
    have hcz28_0 : wc.cell? ⟨gb247, 0, none⟩ = some (.int .i64 a0_0) := (kCe BK247.out 0).trans rfl
    have hcz28_1 : wc.cell? ⟨gb247, 1, none⟩ = some (.string a0_1) := (kCe BK247.out 1).trans rfl
    have hcz28_2 : wc.cell? ⟨gb247, 2, none⟩ = some (.string a0_2) := (kCe BK247.out 2).trans rfl
    have hcz28_3 : wc.cell? ⟨gb247, 3, none⟩ = some (.int .i64 a0_3) := (kCe BK247.out 3).trans rfl
    have hcz28_4 : wc.cell? ⟨gb247, 4, none⟩ = some (.int .i64 a0_4) := (kCe BK247.out 4).trans rfl
    go_wp2
    go_ret
    exact ⟨by first | rfl | (simp [eWn, eWs] <;> rfl) | (simp [*, eWn, eWs] <;> rfl), by repeat (first | (with_reducible first | exact HB.out | apply bAl | apply pbD | apply bD1 | refine bSt ?_ GE247.out) | exact HB.out)⟩
   subst c24
   have H1 : (some false) = some r := by rw [if_pos rfl] at H; exact H
   clear H
   have H := H1
   clear H1
   obtain rfl := oI H
   go_wp2
   go_ret
   exact ⟨by first | rfl | (simp [eWn, eWs] <;> rfl) | (simp [*, eWn, eWs] <;> rfl), by repeat (first | (with_reducible first | exact HB.out | apply bAl | apply pbD | apply bD1 | refine bSt ?_ GE247.out) | exact HB.out)⟩
mutual
def r9_In.j0 : Nat → Int → Bool → Int → ByteArray → ByteArray → Int → Int → Option (Bool)
 | 0, _, _, _, _, _, _, _ => none
 | k + 1, x1, x10, x254000, x254001, x254002, x254003, x254004 => if x10 = true then (some false) else (if x254000 = 6 then (r9_In.j1 k x1 true x254000 x254001 x254002 x254003 x254004) else (r9_In.j1 k x1 (x254000 == 8) x254000 x254001 x254002 x254003 x254004))
def r9_In.j1 : Nat → Int → Bool → Int → ByteArray → ByteArray → Int → Int → Option (Bool)
 | 0, _, _, _, _, _, _, _ => none
 | k + 1, x1, x18, x254000, x254001, x254002, x254003, x254004 => if x18 = true then (some true) else (if x1 = 1 then (if x254000 = 1 then (some true) else (some (x254000 == 2))) else (if x1 = 2 then (if x254000 = 1 then (some true) else (if x254000 = 3 then (some true) else (some (x254000 == 4)))) else (some (x254000 == 7))))
end
def r9_In.f (k : Nat) (a0_0 : Int) (a0_1 : ByteArray) (a0_2 : ByteArray) (a0_3 : Int) (a0_4 : Int) (a1 : Int) : Option (Bool) := if a1 < 1 then (r9_In.j0 k a1 true a0_0 a0_1 a0_2 a0_3 a0_4) else (r9_In.j0 k a1 (decide (a1 > 3)) a0_0 a0_1 a0_2 a0_3 a0_4)
theorem r9_In.calls (k : Nat) (a0_0 : Int) (a0_1 : ByteArray) (a0_2 : ByteArray) (a0_3 : Int) (a0_4 : Int) (a1 : Int) (r : Bool) (w : World) (h : r9_In.f k a0_0 a0_1 a0_2 a0_3 a0_4 a1 = some r) :
  Calls Try.prog 49 #[.agg #[.int .i64 a0_0, .string a0_1, .string a0_2, .int .i64 a0_3, .int .i64 a0_4], .int .i64 a1] w fun e w' => e = .returned (.bool r) ∧ Below w.heap.size w w' := by
 have hu33 := Try.underlying33
 have HB := aK (Below.refl w.heap.size w)
 have H : (if a1 < 1 then (r9_In.j0 k a1 true a0_0 a0_1 a0_2 a0_3 a0_4) else (r9_In.j0 k a1 (decide (a1 > 3)) a0_0 a0_1 a0_2 a0_3 a0_4)) = some r := h
 clear h
 have HC3 := aK H
 clear H
 go_enter Try.func49, Try.ntmps49
 go_upto_region 1 with (first | ((with_reducible refine gate_dst (N := 2) rfl ?_); refine box_event ?hg (N := 2) ?hd (cs := #[.int .i64 a0_0, .string a0_1, .string a0_2, .int .i64 a0_3, .int .i64 a0_4]) (t := 33) ?hr ?_; (case hd => rfl); (case hg => rfl); (case hr => first | (go_simp; done) | (go_simp; rfl)); intro gb253 hg w4 hbox hb; have n0_ := aK (bSp (by repeat (first | (with_reducible first | exact HB.out | apply bAl | apply pbD | apply bD1) | exact HB.out)) hb); have n1_ := aK (hbox); have n2_ := aK ((by rw [hg]; exact (bSz (by repeat (first | (with_reducible first | exact HB.out | apply bAl | apply pbD | apply bD1) | exact HB.out))) : w.heap.size ≤ gb253)); have n3_ := aK ((by rw [hg]; exact (bSz (by repeat (first | (with_reducible first | exact HB.out | apply bAl | apply pbD | apply bD1) | exact HB.out))) : w.heap.size ≤ gb253)); clear HB; have HB := n0_; have BK253 := n1_; have GW253 := n2_; have GE253 := n3_; clear n0_ n1_ n2_ n3_; clear hb hbox hg))
 (try simp only [Act.put, qSa, qS0, qS1])
 go_cut [10] (fun v10 wc => ∃ (kq : Nat) (x10_2 : Bool), v10 = .bool x10_2 ∧ Aside0 (r9_In.j0 kq a1 x10_2 a0_0 a0_1 a0_2 a0_3 a0_4 = some r) ∧ Aside0 (kq ≤ k) ∧ Aside0 (wc.heap[gb253]? = some (.cells #[.int .i64 a0_0, .string a0_1, .string a0_2, .int .i64 a0_3, .int .i64 a0_4] 33 (0, 0))) ∧ Aside0 (Below w.heap.size w wc))
 case first =>
  have H := HC3.out
  clear HC3
  by_cases c5 : a1 < 1
  rotate_left
  ·
   rw [if_neg c5] at H
   have c5b0 : decide (a1 < 1) = false := decide_eq_false c5
   clear c5
   (first | rw [c5b0] | (simp only [i64_w, i32_w]; rw [c5b0]) | skip)
   have H' := aK H
   clear H
   go_wp2
   go_meet
   case rel => exact ⟨_, (decide (a1 > 3)), (by first | rfl | (simp; done) | (simp [*]; done)), H', ⟨by first | omega | exact Nat.le_refl _⟩, ⟨by (with_reducible repeat (first | refine kDN ?_ _ | refine kDr ?_ | refine kAl ?_ _)); exact BK253.out⟩, ⟨by repeat (first | (with_reducible first | exact HB.out | apply bAl | apply pbD | apply bD1 | refine bSt ?_ GE253.out) | exact HB.out)⟩⟩
  rw [if_pos c5] at H
  have c5b0 : decide (a1 < 1) = true := decide_eq_true c5
  clear c5
  (first | rw [c5b0] | (simp only [i64_w, i32_w]; rw [c5b0]) | skip)
  have H' := aK H
  clear H
  go_wp2
  go_meet
  case rel => exact ⟨_, (true), (by first | rfl | (simp; done) | (simp [*]; done)), H', ⟨by first | omega | exact Nat.le_refl _⟩, ⟨by (with_reducible repeat (first | refine kDN ?_ _ | refine kDr ?_ | refine kAl ?_ _)); exact BK253.out⟩, ⟨by repeat (first | (with_reducible first | exact HB.out | apply bAl | apply pbD | apply bD1 | refine bSt ?_ GE253.out) | exact HB.out)⟩⟩
 case rest =>
  clear HC3
  try clear p2
  try clear c4
  try clear c5
  try clear c5b0
  obtain ⟨kq, x10_2, rfl, HA, HJ2, BK253, HB⟩ := hcut
  cases kq with
  | zero => exact absurd HA.out (by simp [r9_In.j0])
  | succ kj2 =>
   have H := HA.out
   clear HA
   simp only [r9_In.j0] at H
   by_cases c6 : x10_2 = true
   rotate_left
   ·
    replace c6 := Bool.eq_false_iff.mpr c6
    subst c6
    have H1 : (if a0_0 = 6 then (r9_In.j1 kj2 a1 true a0_0 a0_1 a0_2 a0_3 a0_4) else (r9_In.j1 kj2 a1 (a0_0 == 8) a0_0 a0_1 a0_2 a0_3 a0_4)) = some r := by rw [if_neg (show ¬ (false = true) by decide)] at H; exact H
    clear H
    have H := H1
    clear H1
    have HC7 := aK H
    clear H
    go_upto_region 3 with (fail)
    go_cut [18] (fun v18 wc => ∃ (kq : Nat) (x18_6 : Bool), v18 = .bool x18_6 ∧ Aside0 (r9_In.j1 kq a1 x18_6 a0_0 a0_1 a0_2 a0_3 a0_4 = some r) ∧ Aside0 (kq ≤ kj2) ∧ Aside0 (wc.heap[gb253]? = some (.cells #[.int .i64 a0_0, .string a0_1, .string a0_2, .int .i64 a0_3, .int .i64 a0_4] 33 (0, 0))) ∧ Aside0 (Below w.heap.size w wc))
    case first =>
     have H := HC7.out
     clear HC7
     by_cases c8 : a0_0 = 6
     rotate_left
     ·
      rw [if_neg c8] at H
      have c8b0 : (a0_0 == 6) = false := beq_eq_false_iff_ne.mpr c8
      have c8b1 : (a0_0 != 6) = true := bne_iff_ne.mpr c8
      (first | rw [c8b0] | (simp only [i64_w, i32_w]; rw [c8b0]) | skip)
      have H' := aK H
      clear H
      have hcz10_0 : wc.cell? ⟨gb253, 0, none⟩ = some (.int .i64 a0_0) := (kCe BK253.out 0).trans rfl
      have hcz10_1 : wc.cell? ⟨gb253, 1, none⟩ = some (.string a0_1) := (kCe BK253.out 1).trans rfl
      have hcz10_2 : wc.cell? ⟨gb253, 2, none⟩ = some (.string a0_2) := (kCe BK253.out 2).trans rfl
      have hcz10_3 : wc.cell? ⟨gb253, 3, none⟩ = some (.int .i64 a0_3) := (kCe BK253.out 3).trans rfl
      have hcz10_4 : wc.cell? ⟨gb253, 4, none⟩ = some (.int .i64 a0_4) := (kCe BK253.out 4).trans rfl
      go_wp2
      go_meet
      case rel => exact ⟨_, ((a0_0 == 8)), (by first | rfl | (simp; done) | (simp [*]; done)), H', ⟨by have := HJ2.out; first | omega | exact Nat.le_refl _⟩, ⟨by (with_reducible repeat (first | refine kDN ?_ _ | refine kDr ?_ | refine kAl ?_ _)); exact BK253.out⟩, ⟨by repeat (first | (with_reducible first | exact HB.out | apply bAl | apply pbD | apply bD1 | refine bSt ?_ GE253.out) | exact HB.out)⟩⟩
     rw [if_pos c8] at H
     have c8b0 : (a0_0 == 6) = true := beq_iff_eq.mpr c8
     have c8b1 : (a0_0 != 6) = false := bne_eq_false_iff_eq.mpr c8
     clear c8
     (first | rw [c8b0] | (simp only [i64_w, i32_w]; rw [c8b0]) | skip)
     have H' := aK H
     clear H
     have hcz9_0 : wc.cell? ⟨gb253, 0, none⟩ = some (.int .i64 a0_0) := (kCe BK253.out 0).trans rfl
     have hcz9_1 : wc.cell? ⟨gb253, 1, none⟩ = some (.string a0_1) := (kCe BK253.out 1).trans rfl
     have hcz9_2 : wc.cell? ⟨gb253, 2, none⟩ = some (.string a0_2) := (kCe BK253.out 2).trans rfl
     have hcz9_3 : wc.cell? ⟨gb253, 3, none⟩ = some (.int .i64 a0_3) := (kCe BK253.out 3).trans rfl
     have hcz9_4 : wc.cell? ⟨gb253, 4, none⟩ = some (.int .i64 a0_4) := (kCe BK253.out 4).trans rfl
     go_wp2
     go_meet
     case rel => exact ⟨_, (true), (by first | rfl | (simp; done) | (simp [*]; done)), H', ⟨by have := HJ2.out; first | omega | exact Nat.le_refl _⟩, ⟨by (with_reducible repeat (first | refine kDN ?_ _ | refine kDr ?_ | refine kAl ?_ _)); exact BK253.out⟩, ⟨by repeat (first | (with_reducible first | exact HB.out | apply bAl | apply pbD | apply bD1 | refine bSt ?_ GE253.out) | exact HB.out)⟩⟩
    case rest =>
     clear HC7
     try clear p2
     try clear c4
     try clear c5
     try clear c5b0
     try clear c6
     try clear c8
     try clear c8b0
     try clear c8b1
     try clear hcz10_0
     try clear hcz10_1
     try clear hcz10_2
     try clear hcz10_3
     try clear hcz10_4
     try clear hcz9_0
     try clear hcz9_1
     try clear hcz9_2
     try clear hcz9_3
     try clear hcz9_4
     try clear p2
     obtain ⟨kq, x18_6, rfl, HA, HJ6, BK253, HB⟩ := hcut
     cases kq with
     | zero => exact absurd HA.out (by simp [r9_In.j1])
     | succ kj6 =>
      have H := HA.out
      clear HA
      simp only [r9_In.j1] at H
      by_cases c11 : x18_6 = true
      rotate_left
      ·
       replace c11 := Bool.eq_false_iff.mpr c11
       subst c11
       have H1 : (if a1 = 1 then (if a0_0 = 1 then (some true) else (some (a0_0 == 2))) else (if a1 = 2 then (if a0_0 = 1 then (some true) else (if a0_0 = 3 then (some true) else (some (a0_0 == 4)))) else (some (a0_0 == 7)))) = some r := by rw [if_neg (show ¬ (false = true) by decide)] at H; exact H
       clear H
       have H := H1
       clear H1
       by_cases c12 : a1 = 1
       rotate_left
       ·
        rw [if_neg c12] at H
        have c12b0 : (a1 == 1) = false := beq_eq_false_iff_ne.mpr c12
        have c12b1 : (a1 != 1) = true := bne_iff_ne.mpr c12
        by_cases c16 : a1 = 2
        rotate_left
        ·
         rw [if_neg c16] at H
         have c16b0 : (a1 == 2) = false := beq_eq_false_iff_ne.mpr c16
         have c16b1 : (a1 != 2) = true := bne_iff_ne.mpr c16
         obtain rfl := oI H
         have hcz22_0 : wc.cell? ⟨gb253, 0, none⟩ = some (.int .i64 a0_0) := (kCe BK253.out 0).trans rfl
         have hcz22_1 : wc.cell? ⟨gb253, 1, none⟩ = some (.string a0_1) := (kCe BK253.out 1).trans rfl
         have hcz22_2 : wc.cell? ⟨gb253, 2, none⟩ = some (.string a0_2) := (kCe BK253.out 2).trans rfl
         have hcz22_3 : wc.cell? ⟨gb253, 3, none⟩ = some (.int .i64 a0_3) := (kCe BK253.out 3).trans rfl
         have hcz22_4 : wc.cell? ⟨gb253, 4, none⟩ = some (.int .i64 a0_4) := (kCe BK253.out 4).trans rfl
         go_wp2
         go_ret
         exact ⟨by first | rfl | (simp [eWn, eWs] <;> rfl) | (simp [*, eWn, eWs] <;> rfl), by repeat (first | (with_reducible first | exact HB.out | apply bAl | apply pbD | apply bD1 | refine bSt ?_ GE253.out) | exact HB.out)⟩
        rw [if_pos c16] at H
        have c16b0 : (a1 == 2) = true := beq_iff_eq.mpr c16
        have c16b1 : (a1 != 2) = false := bne_eq_false_iff_eq.mpr c16
        clear c16
        by_cases c17 : a0_0 = 1
        rotate_left
        ·
         rw [if_neg c17] at H
         have c17b0 : (a0_0 == 1) = false := beq_eq_false_iff_ne.mpr c17
         have c17b1 : (a0_0 != 1) = true := bne_iff_ne.mpr c17
         by_cases c19 : a0_0 = 3
         rotate_left
         ·
          rw [if_neg c19] at H
          have c19b0 : (a0_0 == 3) = false := beq_eq_false_iff_ne.mpr c19
          have c19b1 : (a0_0 != 3) = true := bne_iff_ne.mpr c19
          obtain rfl := oI H
          have hcz21_0 : wc.cell? ⟨gb253, 0, none⟩ = some (.int .i64 a0_0) := (kCe BK253.out 0).trans rfl
          have hcz21_1 : wc.cell? ⟨gb253, 1, none⟩ = some (.string a0_1) := (kCe BK253.out 1).trans rfl
          have hcz21_2 : wc.cell? ⟨gb253, 2, none⟩ = some (.string a0_2) := (kCe BK253.out 2).trans rfl
          have hcz21_3 : wc.cell? ⟨gb253, 3, none⟩ = some (.int .i64 a0_3) := (kCe BK253.out 3).trans rfl
          have hcz21_4 : wc.cell? ⟨gb253, 4, none⟩ = some (.int .i64 a0_4) := (kCe BK253.out 4).trans rfl
          go_wp2
          go_ret
          exact ⟨by first | rfl | (simp [eWn, eWs] <;> rfl) | (simp [*, eWn, eWs] <;> rfl), by repeat (first | (with_reducible first | exact HB.out | apply bAl | apply pbD | apply bD1 | refine bSt ?_ GE253.out) | exact HB.out)⟩
         rw [if_pos c19] at H
         have c19b0 : (a0_0 == 3) = true := beq_iff_eq.mpr c19
         have c19b1 : (a0_0 != 3) = false := bne_eq_false_iff_eq.mpr c19
         clear c19
         obtain rfl := oI H
         have hcz20_0 : wc.cell? ⟨gb253, 0, none⟩ = some (.int .i64 a0_0) := (kCe BK253.out 0).trans rfl
         have hcz20_1 : wc.cell? ⟨gb253, 1, none⟩ = some (.string a0_1) := (kCe BK253.out 1).trans rfl
         have hcz20_2 : wc.cell? ⟨gb253, 2, none⟩ = some (.string a0_2) := (kCe BK253.out 2).trans rfl
         have hcz20_3 : wc.cell? ⟨gb253, 3, none⟩ = some (.int .i64 a0_3) := (kCe BK253.out 3).trans rfl
         have hcz20_4 : wc.cell? ⟨gb253, 4, none⟩ = some (.int .i64 a0_4) := (kCe BK253.out 4).trans rfl
         go_wp2
         go_ret
         exact ⟨by first | rfl | (simp [eWn, eWs] <;> rfl) | (simp [*, eWn, eWs] <;> rfl), by repeat (first | (with_reducible first | exact HB.out | apply bAl | apply pbD | apply bD1 | refine bSt ?_ GE253.out) | exact HB.out)⟩
        rw [if_pos c17] at H
        have c17b0 : (a0_0 == 1) = true := beq_iff_eq.mpr c17
        have c17b1 : (a0_0 != 1) = false := bne_eq_false_iff_eq.mpr c17
        clear c17
        obtain rfl := oI H
        have hcz18_0 : wc.cell? ⟨gb253, 0, none⟩ = some (.int .i64 a0_0) := (kCe BK253.out 0).trans rfl
        have hcz18_1 : wc.cell? ⟨gb253, 1, none⟩ = some (.string a0_1) := (kCe BK253.out 1).trans rfl
        have hcz18_2 : wc.cell? ⟨gb253, 2, none⟩ = some (.string a0_2) := (kCe BK253.out 2).trans rfl
        have hcz18_3 : wc.cell? ⟨gb253, 3, none⟩ = some (.int .i64 a0_3) := (kCe BK253.out 3).trans rfl
        have hcz18_4 : wc.cell? ⟨gb253, 4, none⟩ = some (.int .i64 a0_4) := (kCe BK253.out 4).trans rfl
        go_wp2
        go_ret
        exact ⟨by first | rfl | (simp [eWn, eWs] <;> rfl) | (simp [*, eWn, eWs] <;> rfl), by repeat (first | (with_reducible first | exact HB.out | apply bAl | apply pbD | apply bD1 | refine bSt ?_ GE253.out) | exact HB.out)⟩
       rw [if_pos c12] at H
       have c12b0 : (a1 == 1) = true := beq_iff_eq.mpr c12
       have c12b1 : (a1 != 1) = false := bne_eq_false_iff_eq.mpr c12
       clear c12
       by_cases c13 : a0_0 = 1
       rotate_left
       ·
        rw [if_neg c13] at H
        have c13b0 : (a0_0 == 1) = false := beq_eq_false_iff_ne.mpr c13
        have c13b1 : (a0_0 != 1) = true := bne_iff_ne.mpr c13
        obtain rfl := oI H
        have hcz15_0 : wc.cell? ⟨gb253, 0, none⟩ = some (.int .i64 a0_0) := (kCe BK253.out 0).trans rfl
        have hcz15_1 : wc.cell? ⟨gb253, 1, none⟩ = some (.string a0_1) := (kCe BK253.out 1).trans rfl
        have hcz15_2 : wc.cell? ⟨gb253, 2, none⟩ = some (.string a0_2) := (kCe BK253.out 2).trans rfl
        have hcz15_3 : wc.cell? ⟨gb253, 3, none⟩ = some (.int .i64 a0_3) := (kCe BK253.out 3).trans rfl
        have hcz15_4 : wc.cell? ⟨gb253, 4, none⟩ = some (.int .i64 a0_4) := (kCe BK253.out 4).trans rfl
        go_wp2
        go_ret
        exact ⟨by first | rfl | (simp [eWn, eWs] <;> rfl) | (simp [*, eWn, eWs] <;> rfl), by repeat (first | (with_reducible first | exact HB.out | apply bAl | apply pbD | apply bD1 | refine bSt ?_ GE253.out) | exact HB.out)⟩
       rw [if_pos c13] at H
       have c13b0 : (a0_0 == 1) = true := beq_iff_eq.mpr c13
       have c13b1 : (a0_0 != 1) = false := bne_eq_false_iff_eq.mpr c13
       clear c13
       obtain rfl := oI H
       have hcz14_0 : wc.cell? ⟨gb253, 0, none⟩ = some (.int .i64 a0_0) := (kCe BK253.out 0).trans rfl
       have hcz14_1 : wc.cell? ⟨gb253, 1, none⟩ = some (.string a0_1) := (kCe BK253.out 1).trans rfl
       have hcz14_2 : wc.cell? ⟨gb253, 2, none⟩ = some (.string a0_2) := (kCe BK253.out 2).trans rfl
       have hcz14_3 : wc.cell? ⟨gb253, 3, none⟩ = some (.int .i64 a0_3) := (kCe BK253.out 3).trans rfl
       have hcz14_4 : wc.cell? ⟨gb253, 4, none⟩ = some (.int .i64 a0_4) := (kCe BK253.out 4).trans rfl
       go_wp2
       go_ret
       exact ⟨by first | rfl | (simp [eWn, eWs] <;> rfl) | (simp [*, eWn, eWs] <;> rfl), by repeat (first | (with_reducible first | exact HB.out | apply bAl | apply pbD | apply bD1 | refine bSt ?_ GE253.out) | exact HB.out)⟩
      subst c11
      have H1 : (some true) = some r := by rw [if_pos rfl] at H; exact H
      clear H
      have H := H1
      clear H1
      obtain rfl := oI H
      go_wp2
      go_ret
      exact ⟨by first | rfl | (simp [eWn, eWs] <;> rfl) | (simp [*, eWn, eWs] <;> rfl), by repeat (first | (with_reducible first | exact HB.out | apply bAl | apply pbD | apply bD1 | refine bSt ?_ GE253.out) | exact HB.out)⟩
   subst c6
   have H1 : (some false) = some r := by rw [if_pos rfl] at H; exact H
   clear H
   have H := H1
   clear H1
   obtain rfl := oI H
   go_wp2
   go_ret
   exact ⟨by first | rfl | (simp [eWn, eWs] <;> rfl) | (simp [*, eWn, eWs] <;> rfl), by repeat (first | (with_reducible first | exact HB.out | apply bAl | apply pbD | apply bD1 | refine bSt ?_ GE253.out) | exact HB.out)⟩
def r9_Begins.f (a0 : ByteArray) (a1 : ByteArray) : Option (Bool) := if (a0.size : Int) ≤ (a1.size : Int) then (if 0 ≤ (a0.size : Int) then (some ((a1.extract 0 ((a0.size : Int) : Int).toNat).toList == a0.toList)) else (none)) else (some false)
theorem r9_Begins.calls (a0 : ByteArray) (a1 : ByteArray) (r : Bool) (w : World) (h : r9_Begins.f a0 a1 = some r) :
  Calls Try.prog 50 #[.string a0, .string a1] w fun e w' => e = .returned (.bool r) ∧ Drawn0 w w' := by
 have H : (if (a0.size : Int) ≤ (a1.size : Int) then (if 0 ≤ (a0.size : Int) then (some ((a1.extract 0 ((a0.size : Int) : Int).toNat).toList == a0.toList)) else (none)) else (some false)) = some r := h
 clear h
 by_cases c3 : (a0.size : Int) ≤ (a1.size : Int)
 rotate_left
 ·
  rw [if_neg c3] at H
  have c3b0 : decide ((a0.size : Int) ≤ (a1.size : Int)) = false := decide_eq_false c3
  have c3b1 : decide (a0.size ≤ a1.size) = false := decide_eq_false (fun h => c3 (Int.ofNat_le.mpr h))
  clear c3
  obtain rfl := oI H
  go_enter Try.func50, Try.ntmps50
  go_wp2
  go_ret
  exact ⟨by first | rfl | (simp; done) | (simp [*]; done), by repeat (first | exact Drawn0.refl _ | apply Drawn0.step)⟩
 rw [if_pos c3] at H
 have c3b0 : decide ((a0.size : Int) ≤ (a1.size : Int)) = true := decide_eq_true c3
 have c3b1 : decide (a0.size ≤ a1.size) = true := decide_eq_true (Int.ofNat_le.mp c3)
 clear c3
 by_cases c4 : 0 ≤ (a0.size : Int)
 rotate_left
 ·
  rw [if_neg c4] at H
  exact absurd H (by simp)
 rw [if_pos c4] at H
 have c4b0 := eq_true c4
 have c4b1 : decide (0 ≤ (a0.size : Int)) = true := decide_eq_true c4
 clear c4
 have c5b0 := eq_true (odT (by first | (with_reducible assumption) | assumption) : (a0.size : Int) ≤ (a1.size : Int))
 obtain rfl := oI H
 go_enter Try.func50, Try.ntmps50
 go_wp2
 go_ret
 exact ⟨by first | rfl | (simp; done) | (simp [*]; done), by repeat (first | exact Drawn0.refl _ | apply Drawn0.step)⟩
end Go.Proofs.Ytbpbniemjjhecaa.PChk
