-- Written by a program of this session (prt.py), out of the translation. Lean checks it.
import Derived.Test.YtgjkjoocnkdckaaZPChk0
import Derived.Test.YtgjkjoocnkdckaaZPChk12
import Derived.Test.YtgjkjoocnkdckaaZPChk14
namespace Go.Proofs.Ytgjkjoocnkdckaa.PChk
open Go.RowKit Go.Proofs.Ytgjkjoocnkdckaa.G Go.Proofs.YtgjkjoocnkdckaaW.PrintWords Go.Proofs.YtgjkjoocnkdckaaW.PrintLast Go.Proofs.YtgjkjoocnkdckaaW.PrintMore
attribute [local go_sem] max2_int min2_int max_two min_two max_three min_three max_four min_four   -- for this text's walks alone
set_option linter.unusedVariables false
set_option linter.unusedSimpArgs false
def r9_Alone.j0 : Nat → Bool → Int → ByteArray → ByteArray → Int → Int → Option (Bool)
 | 0, _, _, _, _, _, _ => none
 | k + 1, x26, x324000, x324001, x324002, x324003, x324004 => if x26 = true then (some false) else (if x324000 = 8 then (if x324001.toList = ([110, 117, 109] : List UInt8) then (if (x324002.size : Int) > 2 then (some false) else ((r8_May.f k x324000 x324001 x324002 x324003 x324004).bind fun t325 => (some t325))) else (if x324001.toList = ([108, 101, 116] : List UInt8) then (if (x324002.size : Int) > 2 then (some false) else ((r8_May.f k x324000 x324001 x324002 x324003 x324004).bind fun t326 => (some t326))) else ((r8_May.f k x324000 x324001 x324002 x324003 x324004).bind fun t327 => (some t327)))) else ((r8_May.f k x324000 x324001 x324002 x324003 x324004).bind fun t328 => (some t328)))
def r9_Alone.f (k : Nat) (a0_0 : Int) (a0_1 : ByteArray) (a0_2 : ByteArray) (a0_3 : Int) (a0_4 : Int) : Option (Bool) := (r9_Kept.f a0_0 a0_1 a0_2 a0_3 a0_4).bind fun t324 => (if t324 = true then (r9_Alone.j0 k ((a0_2.size : Int) != 1) a0_0 a0_1 a0_2 a0_3 a0_4) else (if a0_0 = 7 then (r9_Alone.j0 k ((a0_2.size : Int) != 1) a0_0 a0_1 a0_2 a0_3 a0_4) else (if a0_0 = 1 then (if (a0_1.size : Int) = 1 then (r9_Alone.j0 k ((a0_2.size : Int) != 1) a0_0 a0_1 a0_2 a0_3 a0_4) else (r9_Alone.j0 k false a0_0 a0_1 a0_2 a0_3 a0_4)) else (r9_Alone.j0 k false a0_0 a0_1 a0_2 a0_3 a0_4))))
theorem r9_Alone.mono_l : ∀ k, (∀ y0 y1 y2 y3 y4 y5, LeO (r9_Alone.j0 k y0 y1 y2 y3 y4 y5) (r9_Alone.j0 (k + 1) y0 y1 y2 y3 y4 y5))
 | 0 => fun _ _ _ _ _ _ r h => by simp [r9_Alone.j0] at h
 | k + 1 => by
  have ih0 := r9_Alone.mono_l k
  ·
   intro y0 y1 y2 y3 y4 y5
   unfold r9_Alone.j0
   repeat' first
   | (with_reducible exact ih0 _ _ _ _ _ _)
   | (with_reducible exact r8_May.mono _ _ _ _ _ _)
   | (with_reducible exact LeO.refl _)
   | (with_reducible exact LeO.none _)
   | (with_reducible refine LeO.ite ?_ ?_)
   | (with_reducible refine LeO.bind ?_ (fun _ => ?_))
   | exact ih0 _ _ _ _ _ _
   | exact r8_May.mono _ _ _ _ _ _
   | exact LeO.none _
   | refine LeO.ite ?_ ?_
   | refine LeO.bind ?_ (fun _ => ?_)
theorem r9_Alone.mono : ∀ a0 a1 a2 a3 a4 k, LeO (r9_Alone.f k a0 a1 a2 a3 a4) (r9_Alone.f (k + 1) a0 a1 a2 a3 a4) := by
 intro a0 a1 a2 a3 a4 k
 have ih0 := r9_Alone.mono_l k
 unfold r9_Alone.f
 repeat' first
   | (with_reducible exact ih0 _ _ _ _ _ _)
   | (with_reducible exact r8_May.mono _ _ _ _ _ _)
   | (with_reducible exact LeO.refl _)
   | (with_reducible exact LeO.none _)
   | (with_reducible refine LeO.ite ?_ ?_)
   | (with_reducible refine LeO.bind ?_ (fun _ => ?_))
   | exact ih0 _ _ _ _ _ _
   | exact r8_May.mono _ _ _ _ _ _
   | exact LeO.none _
   | refine LeO.ite ?_ ?_
   | refine LeO.bind ?_ (fun _ => ?_)
set_option maxHeartbeats 8000000 in
set_option maxRecDepth 100000 in
theorem r9_Alone.calls (k : Nat) (a0_0 : Int) (a0_1 : ByteArray) (a0_2 : ByteArray) (a0_3 : Int) (a0_4 : Int) (r : Bool) (w : World) (h : r9_Alone.f k a0_0 a0_1 a0_2 a0_3 a0_4 = some r) :
  Calls Try.prog 12 #[.agg #[.int .i64 a0_0, .string a0_1, .string a0_2, .int .i64 a0_3, .int .i64 a0_4]] w fun e w' => e = .returned (.bool r) ∧ Below w.heap.size w w' := by
 have hu23 := Try.underlying23
 have HB := aK (Below.refl w.heap.size w)
 have H : ((r9_Kept.f a0_0 a0_1 a0_2 a0_3 a0_4).bind fun t324 => (if t324 = true then (r9_Alone.j0 k ((a0_2.size : Int) != 1) a0_0 a0_1 a0_2 a0_3 a0_4) else (if a0_0 = 7 then (r9_Alone.j0 k ((a0_2.size : Int) != 1) a0_0 a0_1 a0_2 a0_3 a0_4) else (if a0_0 = 1 then (if (a0_1.size : Int) = 1 then (r9_Alone.j0 k ((a0_2.size : Int) != 1) a0_0 a0_1 a0_2 a0_3 a0_4) else (r9_Alone.j0 k false a0_0 a0_1 a0_2 a0_3 a0_4)) else (r9_Alone.j0 k false a0_0 a0_1 a0_2 a0_3 a0_4))))) = some r := h
 clear h
 have HC2 := aK H
 clear H
 go_enter Try.func12, Try.ntmps12
 go_upto_region 1 with (first | ((with_reducible refine gate_dst (N := 1) rfl ?_); (try (refine gate_guard (by rfl) ?_; dsimp only)); refine box_event ?hg (N := 1) ?hd (cs := #[.int .i64 a0_0, .string a0_1, .string a0_2, .int .i64 a0_3, .int .i64 a0_4]) (t := 23) ?hr ?_; (case hd => rfl); (case hg => rfl); (case hr => first | (go_simp; done) | (go_simp; rfl)); intro gb323 hg w3 hbox hb; have n0_ := aK (bSp (by repeat (first | (with_reducible first | exact HB.out | apply bAl | apply pbD | apply bD1) | exact HB.out)) hb); have n1_ := aK (hbox); have n2_ := aK ((by rw [hg]; exact (bSz (by repeat (first | (with_reducible first | exact HB.out | apply bAl | apply pbD | apply bD1) | exact HB.out))) : w.heap.size ≤ gb323)); have n3_ := aK ((by rw [hg]; exact (bSz (by repeat (first | (with_reducible first | exact HB.out | apply bAl | apply pbD | apply bD1) | exact HB.out))) : w.heap.size ≤ gb323)); clear HB; have HB := n0_; have BK323 := n1_; have GW323 := n2_; have GE323 := n3_; clear n0_ n1_ n2_ n3_; clear hb hbox hg))
 (try simp only [Act.put, qSa, qS0, qS1])
 go_cut [26] (fun v26 wc => ∃ (kq : Nat) (x26_1 : Bool), v26 = .bool x26_1 ∧ Aside0 (r9_Alone.j0 kq x26_1 a0_0 a0_1 a0_2 a0_3 a0_4 = some r) ∧ Aside0 (kq ≤ k) ∧ Aside0 (wc.heap[gb323]? = some (.cells #[.int .i64 a0_0, .string a0_1, .string a0_2, .int .i64 a0_3, .int .i64 a0_4] 23 (0, 0))) ∧ Aside0 (Below w.heap.size w wc))
 case first =>
  have H := HC2.out
  clear HC2
  replace H := oB H
  obtain ⟨t324, A40, H⟩ := H
  try dsimp only at H
  have A4 := aK A40
  clear A40
  by_cases c5 : t324 = true
  ·
   subst c5
   have H1 : (r9_Alone.j0 k ((a0_2.size : Int) != 1) a0_0 a0_1 a0_2 a0_3 a0_4) = some r := by rw [if_pos rfl] at H; exact H
   clear H
   have H := H1
   clear H1
   have H' := aK H
   clear H
   have hcz6_0 : w3.cell? ⟨gb323, 0, none⟩ = some (.int .i64 a0_0) := (kCe BK323.out 0).trans rfl
   have hcz6_1 : w3.cell? ⟨gb323, 1, none⟩ = some (.string a0_1) := (kCe BK323.out 1).trans rfl
   have hcz6_2 : w3.cell? ⟨gb323, 2, none⟩ = some (.string a0_2) := (kCe BK323.out 2).trans rfl
   have hcz6_3 : w3.cell? ⟨gb323, 3, none⟩ = some (.int .i64 a0_3) := (kCe BK323.out 3).trans rfl
   have hcz6_4 : w3.cell? ⟨gb323, 4, none⟩ = some (.int .i64 a0_4) := (kCe BK323.out 4).trans rfl
   go_wp2_with (first | ((with_reducible refine gate_callee (f := 26) rfl ?_); refine goesL_ (some 4) rfl rfl Try.func26 (by kernel_rfl) rfl #[.agg #[.int .i64 a0_0, .string a0_1, .string a0_2, .int .i64 a0_3, .int .i64 a0_4]] rfl (by (try simp only [qM0, qM1, qM2]); first | done | rfl | (simp only [qD0, qD1]; rfl)) ?_; (with_reducible refine (r9_Kept.calls a0_0 a0_1 a0_2 a0_3 a0_4 true _ A4.out).mono ?_); rintro e w7 ⟨rfl, hb⟩; refine ⟨_, rfl, ?_⟩; have n0_ := aK (kBe (g := gb323) (o := .cells #[.int .i64 a0_0, .string a0_1, .string a0_2, .int .i64 a0_3, .int .i64 a0_4] 23 (0, 0)) (by (with_reducible repeat (first | refine kDN ?_ _ | refine kDr ?_ | refine kAl ?_ _)); exact BK323.out) hb); have n1_ := aK (bSp (by repeat (first | (with_reducible first | exact HB.out | apply bAl | apply pbD | apply bD1 | refine bSt ?_ GE323.out) | exact HB.out)) hb); clear BK323; clear HB; have BK323 := n0_; have HB := n1_; clear n0_ n1_; (try clear hb); (try clear hb2); (try clear hk); (try clear hi); have hcz8_0 : w7.cell? ⟨gb323, 0, none⟩ = some (.int .i64 a0_0) := (kCe BK323.out 0).trans rfl; have hcz8_1 : w7.cell? ⟨gb323, 1, none⟩ = some (.string a0_1) := (kCe BK323.out 1).trans rfl; have hcz8_2 : w7.cell? ⟨gb323, 2, none⟩ = some (.string a0_2) := (kCe BK323.out 2).trans rfl; have hcz8_3 : w7.cell? ⟨gb323, 3, none⟩ = some (.int .i64 a0_3) := (kCe BK323.out 3).trans rfl; have hcz8_4 : w7.cell? ⟨gb323, 4, none⟩ = some (.int .i64 a0_4) := (kCe BK323.out 4).trans rfl))
   go_meet
   case rel => exact ⟨_, (((a0_2.size : Int) != 1)), (by first | rfl | (simp; done) | (simp [*]; done)), H', ⟨by first | omega | exact Nat.le_refl _⟩, ⟨by (with_reducible repeat (first | refine kDN ?_ _ | refine kDr ?_ | refine kAl ?_ _)); exact BK323.out⟩, ⟨by repeat (first | (with_reducible first | exact HB.out | apply bAl | apply pbD | apply bD1 | refine bSt ?_ GE323.out) | exact HB.out)⟩⟩
  ·
   replace c5 := Bool.eq_false_iff.mpr c5
   subst c5
   have H1 : (if a0_0 = 7 then (r9_Alone.j0 k ((a0_2.size : Int) != 1) a0_0 a0_1 a0_2 a0_3 a0_4) else (if a0_0 = 1 then (if (a0_1.size : Int) = 1 then (r9_Alone.j0 k ((a0_2.size : Int) != 1) a0_0 a0_1 a0_2 a0_3 a0_4) else (r9_Alone.j0 k false a0_0 a0_1 a0_2 a0_3 a0_4)) else (r9_Alone.j0 k false a0_0 a0_1 a0_2 a0_3 a0_4))) = some r := by rw [if_neg (show ¬ (false = true) by decide)] at H; exact H
   clear H
   have H := H1
   clear H1
   by_cases c9 : a0_0 = 7
   ·
    rw [if_pos c9] at H
    have c9b0 : (a0_0 == 7) = true := beq_iff_eq.mpr c9
    have c9b1 : (a0_0 != 7) = false := bne_eq_false_iff_eq.mpr c9
    clear c9
    (first | rw [c9b0] | (simp only [i64_w, i32_w]; rw [c9b0]) | skip)
    have H' := aK H
    clear H
    have hcz10_0 : w3.cell? ⟨gb323, 0, none⟩ = some (.int .i64 a0_0) := (kCe BK323.out 0).trans rfl
    have hcz10_1 : w3.cell? ⟨gb323, 1, none⟩ = some (.string a0_1) := (kCe BK323.out 1).trans rfl
    have hcz10_2 : w3.cell? ⟨gb323, 2, none⟩ = some (.string a0_2) := (kCe BK323.out 2).trans rfl
    have hcz10_3 : w3.cell? ⟨gb323, 3, none⟩ = some (.int .i64 a0_3) := (kCe BK323.out 3).trans rfl
    have hcz10_4 : w3.cell? ⟨gb323, 4, none⟩ = some (.int .i64 a0_4) := (kCe BK323.out 4).trans rfl
    go_wp2_with (first | ((with_reducible refine gate_callee (f := 26) rfl ?_); refine goesL_ (some 4) rfl rfl Try.func26 (by kernel_rfl) rfl #[.agg #[.int .i64 a0_0, .string a0_1, .string a0_2, .int .i64 a0_3, .int .i64 a0_4]] rfl (by (try simp only [qM0, qM1, qM2]); first | done | rfl | (simp only [qD0, qD1]; rfl)) ?_; (with_reducible refine (r9_Kept.calls a0_0 a0_1 a0_2 a0_3 a0_4 false _ A4.out).mono ?_); rintro e w11 ⟨rfl, hb⟩; refine ⟨_, rfl, ?_⟩; have n0_ := aK (kBe (g := gb323) (o := .cells #[.int .i64 a0_0, .string a0_1, .string a0_2, .int .i64 a0_3, .int .i64 a0_4] 23 (0, 0)) (by (with_reducible repeat (first | refine kDN ?_ _ | refine kDr ?_ | refine kAl ?_ _)); exact BK323.out) hb); have n1_ := aK (bSp (by repeat (first | (with_reducible first | exact HB.out | apply bAl | apply pbD | apply bD1 | refine bSt ?_ GE323.out) | exact HB.out)) hb); clear BK323; clear HB; have BK323 := n0_; have HB := n1_; clear n0_ n1_; (try clear hb); (try clear hb2); (try clear hk); (try clear hi); have hcz12_0 : w11.cell? ⟨gb323, 0, none⟩ = some (.int .i64 a0_0) := (kCe BK323.out 0).trans rfl; have hcz12_1 : w11.cell? ⟨gb323, 1, none⟩ = some (.string a0_1) := (kCe BK323.out 1).trans rfl; have hcz12_2 : w11.cell? ⟨gb323, 2, none⟩ = some (.string a0_2) := (kCe BK323.out 2).trans rfl; have hcz12_3 : w11.cell? ⟨gb323, 3, none⟩ = some (.int .i64 a0_3) := (kCe BK323.out 3).trans rfl; have hcz12_4 : w11.cell? ⟨gb323, 4, none⟩ = some (.int .i64 a0_4) := (kCe BK323.out 4).trans rfl))
    go_meet
    case rel => exact ⟨_, (((a0_2.size : Int) != 1)), (by first | rfl | (simp; done) | (simp [*]; done)), H', ⟨by first | omega | exact Nat.le_refl _⟩, ⟨by (with_reducible repeat (first | refine kDN ?_ _ | refine kDr ?_ | refine kAl ?_ _)); exact BK323.out⟩, ⟨by repeat (first | (with_reducible first | exact HB.out | apply bAl | apply pbD | apply bD1 | refine bSt ?_ GE323.out) | exact HB.out)⟩⟩
   ·
    rw [if_neg c9] at H
    have c9b0 : (a0_0 == 7) = false := beq_eq_false_iff_ne.mpr c9
    have c9b1 : (a0_0 != 7) = true := bne_iff_ne.mpr c9
    (first | rw [c9b0] | (simp only [i64_w, i32_w]; rw [c9b0]) | skip)
    by_cases c13 : a0_0 = 1
    ·
     rw [if_pos c13] at H
     have c13b0 : (a0_0 == 1) = true := beq_iff_eq.mpr c13
     have c13b1 : (a0_0 != 1) = false := bne_eq_false_iff_eq.mpr c13
     clear c13
     by_cases c14 : (a0_1.size : Int) = 1
     ·
      rw [if_pos c14] at H
      have c14b0 : ((a0_1.size : Int) == 1) = true := beq_iff_eq.mpr c14
      have c14b1 : ((a0_1.size : Int) != 1) = false := bne_eq_false_iff_eq.mpr c14
      clear c14
      have H' := aK H
      clear H
      have hcz15_0 : w3.cell? ⟨gb323, 0, none⟩ = some (.int .i64 a0_0) := (kCe BK323.out 0).trans rfl
      have hcz15_1 : w3.cell? ⟨gb323, 1, none⟩ = some (.string a0_1) := (kCe BK323.out 1).trans rfl
      have hcz15_2 : w3.cell? ⟨gb323, 2, none⟩ = some (.string a0_2) := (kCe BK323.out 2).trans rfl
      have hcz15_3 : w3.cell? ⟨gb323, 3, none⟩ = some (.int .i64 a0_3) := (kCe BK323.out 3).trans rfl
      have hcz15_4 : w3.cell? ⟨gb323, 4, none⟩ = some (.int .i64 a0_4) := (kCe BK323.out 4).trans rfl
      go_wp2_with (first | ((with_reducible refine gate_callee (f := 26) rfl ?_); refine goesL_ (some 4) rfl rfl Try.func26 (by kernel_rfl) rfl #[.agg #[.int .i64 a0_0, .string a0_1, .string a0_2, .int .i64 a0_3, .int .i64 a0_4]] rfl (by (try simp only [qM0, qM1, qM2]); first | done | rfl | (simp only [qD0, qD1]; rfl)) ?_; (with_reducible refine (r9_Kept.calls a0_0 a0_1 a0_2 a0_3 a0_4 false _ A4.out).mono ?_); rintro e w16 ⟨rfl, hb⟩; refine ⟨_, rfl, ?_⟩; have n0_ := aK (kBe (g := gb323) (o := .cells #[.int .i64 a0_0, .string a0_1, .string a0_2, .int .i64 a0_3, .int .i64 a0_4] 23 (0, 0)) (by (with_reducible repeat (first | refine kDN ?_ _ | refine kDr ?_ | refine kAl ?_ _)); exact BK323.out) hb); have n1_ := aK (bSp (by repeat (first | (with_reducible first | exact HB.out | apply bAl | apply pbD | apply bD1 | refine bSt ?_ GE323.out) | exact HB.out)) hb); clear BK323; clear HB; have BK323 := n0_; have HB := n1_; clear n0_ n1_; (try clear hb); (try clear hb2); (try clear hk); (try clear hi); have hcz17_0 : w16.cell? ⟨gb323, 0, none⟩ = some (.int .i64 a0_0) := (kCe BK323.out 0).trans rfl; have hcz17_1 : w16.cell? ⟨gb323, 1, none⟩ = some (.string a0_1) := (kCe BK323.out 1).trans rfl; have hcz17_2 : w16.cell? ⟨gb323, 2, none⟩ = some (.string a0_2) := (kCe BK323.out 2).trans rfl; have hcz17_3 : w16.cell? ⟨gb323, 3, none⟩ = some (.int .i64 a0_3) := (kCe BK323.out 3).trans rfl; have hcz17_4 : w16.cell? ⟨gb323, 4, none⟩ = some (.int .i64 a0_4) := (kCe BK323.out 4).trans rfl))
      go_meet
      case rel => exact ⟨_, (((a0_2.size : Int) != 1)), (by first | rfl | (simp; done) | (simp [*]; done)), H', ⟨by first | omega | exact Nat.le_refl _⟩, ⟨by (with_reducible repeat (first | refine kDN ?_ _ | refine kDr ?_ | refine kAl ?_ _)); exact BK323.out⟩, ⟨by repeat (first | (with_reducible first | exact HB.out | apply bAl | apply pbD | apply bD1 | refine bSt ?_ GE323.out) | exact HB.out)⟩⟩
     ·
      rw [if_neg c14] at H
      have c14b0 : ((a0_1.size : Int) == 1) = false := beq_eq_false_iff_ne.mpr c14
      have c14b1 : ((a0_1.size : Int) != 1) = true := bne_iff_ne.mpr c14
      have H' := aK H
      clear H
      have hcz18_0 : w3.cell? ⟨gb323, 0, none⟩ = some (.int .i64 a0_0) := (kCe BK323.out 0).trans rfl
      have hcz18_1 : w3.cell? ⟨gb323, 1, none⟩ = some (.string a0_1) := (kCe BK323.out 1).trans rfl
      have hcz18_2 : w3.cell? ⟨gb323, 2, none⟩ = some (.string a0_2) := (kCe BK323.out 2).trans rfl
      have hcz18_3 : w3.cell? ⟨gb323, 3, none⟩ = some (.int .i64 a0_3) := (kCe BK323.out 3).trans rfl
      have hcz18_4 : w3.cell? ⟨gb323, 4, none⟩ = some (.int .i64 a0_4) := (kCe BK323.out 4).trans rfl
      go_wp2_with (first | ((with_reducible refine gate_callee (f := 26) rfl ?_); refine goesL_ (some 4) rfl rfl Try.func26 (by kernel_rfl) rfl #[.agg #[.int .i64 a0_0, .string a0_1, .string a0_2, .int .i64 a0_3, .int .i64 a0_4]] rfl (by (try simp only [qM0, qM1, qM2]); first | done | rfl | (simp only [qD0, qD1]; rfl)) ?_; (with_reducible refine (r9_Kept.calls a0_0 a0_1 a0_2 a0_3 a0_4 false _ A4.out).mono ?_); rintro e w19 ⟨rfl, hb⟩; refine ⟨_, rfl, ?_⟩; have n0_ := aK (kBe (g := gb323) (o := .cells #[.int .i64 a0_0, .string a0_1, .string a0_2, .int .i64 a0_3, .int .i64 a0_4] 23 (0, 0)) (by (with_reducible repeat (first | refine kDN ?_ _ | refine kDr ?_ | refine kAl ?_ _)); exact BK323.out) hb); have n1_ := aK (bSp (by repeat (first | (with_reducible first | exact HB.out | apply bAl | apply pbD | apply bD1 | refine bSt ?_ GE323.out) | exact HB.out)) hb); clear BK323; clear HB; have BK323 := n0_; have HB := n1_; clear n0_ n1_; (try clear hb); (try clear hb2); (try clear hk); (try clear hi); have hcz20_0 : w19.cell? ⟨gb323, 0, none⟩ = some (.int .i64 a0_0) := (kCe BK323.out 0).trans rfl; have hcz20_1 : w19.cell? ⟨gb323, 1, none⟩ = some (.string a0_1) := (kCe BK323.out 1).trans rfl; have hcz20_2 : w19.cell? ⟨gb323, 2, none⟩ = some (.string a0_2) := (kCe BK323.out 2).trans rfl; have hcz20_3 : w19.cell? ⟨gb323, 3, none⟩ = some (.int .i64 a0_3) := (kCe BK323.out 3).trans rfl; have hcz20_4 : w19.cell? ⟨gb323, 4, none⟩ = some (.int .i64 a0_4) := (kCe BK323.out 4).trans rfl))
      go_meet
      case rel => exact ⟨_, (false), (by first | rfl | (simp; done) | (simp [*]; done)), H', ⟨by first | omega | exact Nat.le_refl _⟩, ⟨by (with_reducible repeat (first | refine kDN ?_ _ | refine kDr ?_ | refine kAl ?_ _)); exact BK323.out⟩, ⟨by repeat (first | (with_reducible first | exact HB.out | apply bAl | apply pbD | apply bD1 | refine bSt ?_ GE323.out) | exact HB.out)⟩⟩
    ·
     rw [if_neg c13] at H
     have c13b0 : (a0_0 == 1) = false := beq_eq_false_iff_ne.mpr c13
     have c13b1 : (a0_0 != 1) = true := bne_iff_ne.mpr c13
     have H' := aK H
     clear H
     have hcz21_0 : w3.cell? ⟨gb323, 0, none⟩ = some (.int .i64 a0_0) := (kCe BK323.out 0).trans rfl
     have hcz21_1 : w3.cell? ⟨gb323, 1, none⟩ = some (.string a0_1) := (kCe BK323.out 1).trans rfl
     have hcz21_2 : w3.cell? ⟨gb323, 2, none⟩ = some (.string a0_2) := (kCe BK323.out 2).trans rfl
     have hcz21_3 : w3.cell? ⟨gb323, 3, none⟩ = some (.int .i64 a0_3) := (kCe BK323.out 3).trans rfl
     have hcz21_4 : w3.cell? ⟨gb323, 4, none⟩ = some (.int .i64 a0_4) := (kCe BK323.out 4).trans rfl
     go_wp2_with (first | ((with_reducible refine gate_callee (f := 26) rfl ?_); refine goesL_ (some 4) rfl rfl Try.func26 (by kernel_rfl) rfl #[.agg #[.int .i64 a0_0, .string a0_1, .string a0_2, .int .i64 a0_3, .int .i64 a0_4]] rfl (by (try simp only [qM0, qM1, qM2]); first | done | rfl | (simp only [qD0, qD1]; rfl)) ?_; (with_reducible refine (r9_Kept.calls a0_0 a0_1 a0_2 a0_3 a0_4 false _ A4.out).mono ?_); rintro e w22 ⟨rfl, hb⟩; refine ⟨_, rfl, ?_⟩; have n0_ := aK (kBe (g := gb323) (o := .cells #[.int .i64 a0_0, .string a0_1, .string a0_2, .int .i64 a0_3, .int .i64 a0_4] 23 (0, 0)) (by (with_reducible repeat (first | refine kDN ?_ _ | refine kDr ?_ | refine kAl ?_ _)); exact BK323.out) hb); have n1_ := aK (bSp (by repeat (first | (with_reducible first | exact HB.out | apply bAl | apply pbD | apply bD1 | refine bSt ?_ GE323.out) | exact HB.out)) hb); clear BK323; clear HB; have BK323 := n0_; have HB := n1_; clear n0_ n1_; (try clear hb); (try clear hb2); (try clear hk); (try clear hi); have hcz23_0 : w22.cell? ⟨gb323, 0, none⟩ = some (.int .i64 a0_0) := (kCe BK323.out 0).trans rfl; have hcz23_1 : w22.cell? ⟨gb323, 1, none⟩ = some (.string a0_1) := (kCe BK323.out 1).trans rfl; have hcz23_2 : w22.cell? ⟨gb323, 2, none⟩ = some (.string a0_2) := (kCe BK323.out 2).trans rfl; have hcz23_3 : w22.cell? ⟨gb323, 3, none⟩ = some (.int .i64 a0_3) := (kCe BK323.out 3).trans rfl; have hcz23_4 : w22.cell? ⟨gb323, 4, none⟩ = some (.int .i64 a0_4) := (kCe BK323.out 4).trans rfl))
     go_meet
     case rel => exact ⟨_, (false), (by first | rfl | (simp; done) | (simp [*]; done)), H', ⟨by first | omega | exact Nat.le_refl _⟩, ⟨by (with_reducible repeat (first | refine kDN ?_ _ | refine kDr ?_ | refine kAl ?_ _)); exact BK323.out⟩, ⟨by repeat (first | (with_reducible first | exact HB.out | apply bAl | apply pbD | apply bD1 | refine bSt ?_ GE323.out) | exact HB.out)⟩⟩
 case rest =>
  clear HC2
  try clear c1
  try clear c2
  try clear p2
  try clear c5
  try clear c9
  try clear c9b0
  try clear c9b1
  try clear c12
  try clear c13
  try clear c13b0
  try clear c13b1
  try clear c14
  try clear c14b0
  try clear c14b1
  try clear hcz10_0
  try clear hcz10_1
  try clear hcz10_2
  try clear hcz10_3
  try clear hcz10_4
  try clear hcz12_0
  try clear hcz12_1
  try clear hcz12_2
  try clear hcz12_3
  try clear hcz12_4
  try clear hcz15_0
  try clear hcz15_1
  try clear hcz15_2
  try clear hcz15_3
  try clear hcz15_4
  try clear hcz17_0
  try clear hcz17_1
  try clear hcz17_2
  try clear hcz17_3
  try clear hcz17_4
  try clear hcz18_0
  try clear hcz18_1
  try clear hcz18_2
  try clear hcz18_3
  try clear hcz18_4
  try clear hcz20_0
  try clear hcz20_1
  try clear hcz20_2
  try clear hcz20_3
  try clear hcz20_4
  try clear hcz21_0
  try clear hcz21_1
  try clear hcz21_2
  try clear hcz21_3
  try clear hcz21_4
  try clear hcz23_0
  try clear hcz23_1
  try clear hcz23_2
  try clear hcz23_3
  try clear hcz23_4
  try clear hcz6_0
  try clear hcz6_1
  try clear hcz6_2
  try clear hcz6_3
  try clear hcz6_4
  try clear hcz8_0
  try clear hcz8_1
  try clear hcz8_2
  try clear hcz8_3
  try clear hcz8_4
  obtain ⟨kq, x26_1, rfl, HA, HJ1, BK323, HB⟩ := hcut
  cases kq with
  | zero => exact absurd HA.out (by simp [r9_Alone.j0])
  | succ kj1 =>
   have H := HA.out
   clear HA
   simp only [r9_Alone.j0] at H
   by_cases c24 : x26_1 = true
   ·
    subst c24
    have H1 : (some false) = some r := by rw [if_pos rfl] at H; exact H
    clear H
    have H := H1
    clear H1
    obtain rfl := oI H
    go_wp2
    go_ret
    exact ⟨by first | rfl | (simp [eWn, eWs] <;> rfl) | (simp [*, eWn, eWs] <;> rfl), by repeat (first | (with_reducible first | exact HB.out | apply bAl | apply pbD | apply bD1 | refine bSt ?_ GE323.out) | exact HB.out)⟩
   ·
    replace c24 := Bool.eq_false_iff.mpr c24
    subst c24
    have H1 : (if a0_0 = 8 then (if a0_1.toList = ([110, 117, 109] : List UInt8) then (if (a0_2.size : Int) > 2 then (some false) else ((r8_May.f kj1 a0_0 a0_1 a0_2 a0_3 a0_4).bind fun t325 => (some t325))) else (if a0_1.toList = ([108, 101, 116] : List UInt8) then (if (a0_2.size : Int) > 2 then (some false) else ((r8_May.f kj1 a0_0 a0_1 a0_2 a0_3 a0_4).bind fun t326 => (some t326))) else ((r8_May.f kj1 a0_0 a0_1 a0_2 a0_3 a0_4).bind fun t327 => (some t327)))) else ((r8_May.f kj1 a0_0 a0_1 a0_2 a0_3 a0_4).bind fun t328 => (some t328))) = some r := by rw [if_neg (show ¬ (false = true) by decide)] at H; exact H
    clear H
    have H := H1
    clear H1
    by_cases c25 : a0_0 = 8
    ·
     rw [if_pos c25] at H
     have c25b0 : (a0_0 == 8) = true := beq_iff_eq.mpr c25
     have c25b1 : (a0_0 != 8) = false := bne_eq_false_iff_eq.mpr c25
     clear c25
     by_cases c26 : a0_1.toList = ([110, 117, 109] : List UInt8)
     ·
      rw [if_pos c26] at H
      have c26b0 : (a0_1.toList == ([110, 117, 109] : List UInt8)) = true := beq_iff_eq.mpr c26
      have c26b1 : (a0_1.toList != ([110, 117, 109] : List UInt8)) = false := bne_eq_false_iff_eq.mpr c26
      clear c26
      by_cases c27 : (a0_2.size : Int) > 2
      ·
       rw [if_pos c27] at H
       have c27b0 : decide (2 < (a0_2.size : Int)) = true := decide_eq_true c27
       have c27b1 : decide (2 < a0_2.size) = true := decide_eq_true (by omega)
       clear c27
       obtain rfl := oI H
       have hcz28_0 : wc.cell? ⟨gb323, 0, none⟩ = some (.int .i64 a0_0) := (kCe BK323.out 0).trans rfl
       have hcz28_1 : wc.cell? ⟨gb323, 1, none⟩ = some (.string a0_1) := (kCe BK323.out 1).trans rfl
       have hcz28_2 : wc.cell? ⟨gb323, 2, none⟩ = some (.string a0_2) := (kCe BK323.out 2).trans rfl
       have hcz28_3 : wc.cell? ⟨gb323, 3, none⟩ = some (.int .i64 a0_3) := (kCe BK323.out 3).trans rfl
       have hcz28_4 : wc.cell? ⟨gb323, 4, none⟩ = some (.int .i64 a0_4) := (kCe BK323.out 4).trans rfl
       go_wp2
       go_ret
       exact ⟨by first | rfl | (simp [eWn, eWs] <;> rfl) | (simp [*, eWn, eWs] <;> rfl), by repeat (first | (with_reducible first | exact HB.out | apply bAl | apply pbD | apply bD1 | refine bSt ?_ GE323.out) | exact HB.out)⟩
      ·
       rw [if_neg c27] at H
       have c27b0 : decide (2 < (a0_2.size : Int)) = false := decide_eq_false c27
       have c27b1 : decide (2 < a0_2.size) = false := decide_eq_false (by omega)
       clear c27
       replace H := oB H
       obtain ⟨t325, A290, H⟩ := H
       replace H : (some t325) = some r := H
       have A29 := aK A290
       clear A290
       obtain rfl := oI H
       have hcz30_0 : wc.cell? ⟨gb323, 0, none⟩ = some (.int .i64 a0_0) := (kCe BK323.out 0).trans rfl
       have hcz30_1 : wc.cell? ⟨gb323, 1, none⟩ = some (.string a0_1) := (kCe BK323.out 1).trans rfl
       have hcz30_2 : wc.cell? ⟨gb323, 2, none⟩ = some (.string a0_2) := (kCe BK323.out 2).trans rfl
       have hcz30_3 : wc.cell? ⟨gb323, 3, none⟩ = some (.int .i64 a0_3) := (kCe BK323.out 3).trans rfl
       have hcz30_4 : wc.cell? ⟨gb323, 4, none⟩ = some (.int .i64 a0_4) := (kCe BK323.out 4).trans rfl
       go_wp2_with (first | ((with_reducible refine gate_callee (f := 30) rfl ?_); refine goesL_ (some 47) rfl rfl Try.func30 (by kernel_rfl) rfl #[.agg #[.int .i64 a0_0, .string a0_1, .string a0_2, .int .i64 a0_3, .int .i64 a0_4]] rfl (by (try simp only [qM0, qM1, qM2]); first | done | rfl | (simp only [qD0, qD1]; rfl)) ?_; (with_reducible refine (r8_May.calls kj1 a0_0 a0_1 a0_2 a0_3 a0_4 t325 _ A29.out).mono ?_); rintro e w31 ⟨rfl, hb⟩; refine ⟨_, rfl, ?_⟩; have n0_ := aK (kBe (g := gb323) (o := .cells #[.int .i64 a0_0, .string a0_1, .string a0_2, .int .i64 a0_3, .int .i64 a0_4] 23 (0, 0)) (by (with_reducible repeat (first | refine kDN ?_ _ | refine kDr ?_ | refine kAl ?_ _)); exact BK323.out) hb); have n1_ := aK (bSp (by repeat (first | (with_reducible first | exact HB.out | apply bAl | apply pbD | apply bD1 | refine bSt ?_ GE323.out) | exact HB.out)) hb); clear BK323; clear HB; have BK323 := n0_; have HB := n1_; clear n0_ n1_; (try clear hb); (try clear hb2); (try clear hk); (try clear hi)))
       go_ret
       exact ⟨by first | rfl | (simp [eWn, eWs] <;> rfl) | (simp [*, eWn, eWs] <;> rfl), by repeat (first | (with_reducible first | exact HB.out | apply bAl | apply pbD | apply bD1 | refine bSt ?_ GE323.out) | exact HB.out)⟩
     ·
      rw [if_neg c26] at H
      have c26b0 : (a0_1.toList == ([110, 117, 109] : List UInt8)) = false := beq_eq_false_iff_ne.mpr c26
      have c26b1 : (a0_1.toList != ([110, 117, 109] : List UInt8)) = true := bne_iff_ne.mpr c26
      by_cases c32 : a0_1.toList = ([108, 101, 116] : List UInt8)
      ·
       rw [if_pos c32] at H
       have c32b0 : (a0_1.toList == ([108, 101, 116] : List UInt8)) = true := beq_iff_eq.mpr c32
       have c32b1 : (a0_1.toList != ([108, 101, 116] : List UInt8)) = false := bne_eq_false_iff_eq.mpr c32
       clear c32
       by_cases c33 : (a0_2.size : Int) > 2
       ·
        rw [if_pos c33] at H
        have c33b0 : decide (2 < (a0_2.size : Int)) = true := decide_eq_true c33
        have c33b1 : decide (2 < a0_2.size) = true := decide_eq_true (by omega)
        clear c33
        obtain rfl := oI H
        have hcz34_0 : wc.cell? ⟨gb323, 0, none⟩ = some (.int .i64 a0_0) := (kCe BK323.out 0).trans rfl
        have hcz34_1 : wc.cell? ⟨gb323, 1, none⟩ = some (.string a0_1) := (kCe BK323.out 1).trans rfl
        have hcz34_2 : wc.cell? ⟨gb323, 2, none⟩ = some (.string a0_2) := (kCe BK323.out 2).trans rfl
        have hcz34_3 : wc.cell? ⟨gb323, 3, none⟩ = some (.int .i64 a0_3) := (kCe BK323.out 3).trans rfl
        have hcz34_4 : wc.cell? ⟨gb323, 4, none⟩ = some (.int .i64 a0_4) := (kCe BK323.out 4).trans rfl
        go_wp2
        go_ret
        exact ⟨by first | rfl | (simp [eWn, eWs] <;> rfl) | (simp [*, eWn, eWs] <;> rfl), by repeat (first | (with_reducible first | exact HB.out | apply bAl | apply pbD | apply bD1 | refine bSt ?_ GE323.out) | exact HB.out)⟩
       ·
        rw [if_neg c33] at H
        have c33b0 : decide (2 < (a0_2.size : Int)) = false := decide_eq_false c33
        have c33b1 : decide (2 < a0_2.size) = false := decide_eq_false (by omega)
        clear c33
        replace H := oB H
        obtain ⟨t326, A350, H⟩ := H
        replace H : (some t326) = some r := H
        have A35 := aK A350
        clear A350
        obtain rfl := oI H
        have hcz36_0 : wc.cell? ⟨gb323, 0, none⟩ = some (.int .i64 a0_0) := (kCe BK323.out 0).trans rfl
        have hcz36_1 : wc.cell? ⟨gb323, 1, none⟩ = some (.string a0_1) := (kCe BK323.out 1).trans rfl
        have hcz36_2 : wc.cell? ⟨gb323, 2, none⟩ = some (.string a0_2) := (kCe BK323.out 2).trans rfl
        have hcz36_3 : wc.cell? ⟨gb323, 3, none⟩ = some (.int .i64 a0_3) := (kCe BK323.out 3).trans rfl
        have hcz36_4 : wc.cell? ⟨gb323, 4, none⟩ = some (.int .i64 a0_4) := (kCe BK323.out 4).trans rfl
        go_wp2_with (first | ((with_reducible refine gate_callee (f := 30) rfl ?_); refine goesL_ (some 47) rfl rfl Try.func30 (by kernel_rfl) rfl #[.agg #[.int .i64 a0_0, .string a0_1, .string a0_2, .int .i64 a0_3, .int .i64 a0_4]] rfl (by (try simp only [qM0, qM1, qM2]); first | done | rfl | (simp only [qD0, qD1]; rfl)) ?_; (with_reducible refine (r8_May.calls kj1 a0_0 a0_1 a0_2 a0_3 a0_4 t326 _ A35.out).mono ?_); rintro e w37 ⟨rfl, hb⟩; refine ⟨_, rfl, ?_⟩; have n0_ := aK (kBe (g := gb323) (o := .cells #[.int .i64 a0_0, .string a0_1, .string a0_2, .int .i64 a0_3, .int .i64 a0_4] 23 (0, 0)) (by (with_reducible repeat (first | refine kDN ?_ _ | refine kDr ?_ | refine kAl ?_ _)); exact BK323.out) hb); have n1_ := aK (bSp (by repeat (first | (with_reducible first | exact HB.out | apply bAl | apply pbD | apply bD1 | refine bSt ?_ GE323.out) | exact HB.out)) hb); clear BK323; clear HB; have BK323 := n0_; have HB := n1_; clear n0_ n1_; (try clear hb); (try clear hb2); (try clear hk); (try clear hi)))
        go_ret
        exact ⟨by first | rfl | (simp [eWn, eWs] <;> rfl) | (simp [*, eWn, eWs] <;> rfl), by repeat (first | (with_reducible first | exact HB.out | apply bAl | apply pbD | apply bD1 | refine bSt ?_ GE323.out) | exact HB.out)⟩
      ·
       rw [if_neg c32] at H
       have c32b0 : (a0_1.toList == ([108, 101, 116] : List UInt8)) = false := beq_eq_false_iff_ne.mpr c32
       have c32b1 : (a0_1.toList != ([108, 101, 116] : List UInt8)) = true := bne_iff_ne.mpr c32
       replace H := oB H
       obtain ⟨t327, A380, H⟩ := H
       replace H : (some t327) = some r := H
       have A38 := aK A380
       clear A380
       obtain rfl := oI H
       have hcz39_0 : wc.cell? ⟨gb323, 0, none⟩ = some (.int .i64 a0_0) := (kCe BK323.out 0).trans rfl
       have hcz39_1 : wc.cell? ⟨gb323, 1, none⟩ = some (.string a0_1) := (kCe BK323.out 1).trans rfl
       have hcz39_2 : wc.cell? ⟨gb323, 2, none⟩ = some (.string a0_2) := (kCe BK323.out 2).trans rfl
       have hcz39_3 : wc.cell? ⟨gb323, 3, none⟩ = some (.int .i64 a0_3) := (kCe BK323.out 3).trans rfl
       have hcz39_4 : wc.cell? ⟨gb323, 4, none⟩ = some (.int .i64 a0_4) := (kCe BK323.out 4).trans rfl
       go_wp2_with (first | ((with_reducible refine gate_callee (f := 30) rfl ?_); refine goesL_ (some 47) rfl rfl Try.func30 (by kernel_rfl) rfl #[.agg #[.int .i64 a0_0, .string a0_1, .string a0_2, .int .i64 a0_3, .int .i64 a0_4]] rfl (by (try simp only [qM0, qM1, qM2]); first | done | rfl | (simp only [qD0, qD1]; rfl)) ?_; (with_reducible refine (r8_May.calls kj1 a0_0 a0_1 a0_2 a0_3 a0_4 t327 _ A38.out).mono ?_); rintro e w40 ⟨rfl, hb⟩; refine ⟨_, rfl, ?_⟩; have n0_ := aK (kBe (g := gb323) (o := .cells #[.int .i64 a0_0, .string a0_1, .string a0_2, .int .i64 a0_3, .int .i64 a0_4] 23 (0, 0)) (by (with_reducible repeat (first | refine kDN ?_ _ | refine kDr ?_ | refine kAl ?_ _)); exact BK323.out) hb); have n1_ := aK (bSp (by repeat (first | (with_reducible first | exact HB.out | apply bAl | apply pbD | apply bD1 | refine bSt ?_ GE323.out) | exact HB.out)) hb); clear BK323; clear HB; have BK323 := n0_; have HB := n1_; clear n0_ n1_; (try clear hb); (try clear hb2); (try clear hk); (try clear hi)))
       go_ret
       exact ⟨by first | rfl | (simp [eWn, eWs] <;> rfl) | (simp [*, eWn, eWs] <;> rfl), by repeat (first | (with_reducible first | exact HB.out | apply bAl | apply pbD | apply bD1 | refine bSt ?_ GE323.out) | exact HB.out)⟩
    ·
     rw [if_neg c25] at H
     have c25b0 : (a0_0 == 8) = false := beq_eq_false_iff_ne.mpr c25
     have c25b1 : (a0_0 != 8) = true := bne_iff_ne.mpr c25
     replace H := oB H
     obtain ⟨t328, A410, H⟩ := H
     replace H : (some t328) = some r := H
     have A41 := aK A410
     clear A410
     obtain rfl := oI H
     have hcz42_0 : wc.cell? ⟨gb323, 0, none⟩ = some (.int .i64 a0_0) := (kCe BK323.out 0).trans rfl
     have hcz42_1 : wc.cell? ⟨gb323, 1, none⟩ = some (.string a0_1) := (kCe BK323.out 1).trans rfl
     have hcz42_2 : wc.cell? ⟨gb323, 2, none⟩ = some (.string a0_2) := (kCe BK323.out 2).trans rfl
     have hcz42_3 : wc.cell? ⟨gb323, 3, none⟩ = some (.int .i64 a0_3) := (kCe BK323.out 3).trans rfl
     have hcz42_4 : wc.cell? ⟨gb323, 4, none⟩ = some (.int .i64 a0_4) := (kCe BK323.out 4).trans rfl
     go_wp2_with (first | ((with_reducible refine gate_callee (f := 30) rfl ?_); refine goesL_ (some 47) rfl rfl Try.func30 (by kernel_rfl) rfl #[.agg #[.int .i64 a0_0, .string a0_1, .string a0_2, .int .i64 a0_3, .int .i64 a0_4]] rfl (by (try simp only [qM0, qM1, qM2]); first | done | rfl | (simp only [qD0, qD1]; rfl)) ?_; (with_reducible refine (r8_May.calls kj1 a0_0 a0_1 a0_2 a0_3 a0_4 t328 _ A41.out).mono ?_); rintro e w43 ⟨rfl, hb⟩; refine ⟨_, rfl, ?_⟩; have n0_ := aK (kBe (g := gb323) (o := .cells #[.int .i64 a0_0, .string a0_1, .string a0_2, .int .i64 a0_3, .int .i64 a0_4] 23 (0, 0)) (by (with_reducible repeat (first | refine kDN ?_ _ | refine kDr ?_ | refine kAl ?_ _)); exact BK323.out) hb); have n1_ := aK (bSp (by repeat (first | (with_reducible first | exact HB.out | apply bAl | apply pbD | apply bD1 | refine bSt ?_ GE323.out) | exact HB.out)) hb); clear BK323; clear HB; have BK323 := n0_; have HB := n1_; clear n0_ n1_; (try clear hb); (try clear hb2); (try clear hk); (try clear hi)))
     go_ret
     exact ⟨by first | rfl | (simp [eWn, eWs] <;> rfl) | (simp [*, eWn, eWs] <;> rfl), by repeat (first | (with_reducible first | exact HB.out | apply bAl | apply pbD | apply bD1 | refine bSt ?_ GE323.out) | exact HB.out)⟩
end Go.Proofs.Ytgjkjoocnkdckaa.PChk
