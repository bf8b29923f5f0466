-- Written by a program of this session (prt.py), out of the translation. Lean checks it.
import Derived.Test.YtgjkjoocnkdckaaZPChk0
namespace Go.Proofs.Ytgjkjoocnkdckaa.PChk
open Go.RowKit Go.Proofs.Ytgjkjoocnkdckaa.G Go.Proofs.YtgjkjoocnkdckaaW.PrintWords Go.Proofs.YtgjkjoocnkdckaaW.PrintLast Go.Proofs.YtgjkjoocnkdckaaW.PrintMore
attribute [local go_sem] max2_int min2_int max_two min_two max_three min_three max_four min_four   -- for this text's walks alone
set_option linter.unusedVariables false
set_option linter.unusedSimpArgs false
mutual
def r9_In.j0 : Nat → Int → Bool → Int → ByteArray → ByteArray → Int → Int → Option (Bool)
 | 0, _, _, _, _, _, _, _ => none
 | k + 1, x1, x10, x295000, x295001, x295002, x295003, x295004 => if x10 = true then (some false) else (if x295000 = 6 then (r9_In.j1 k x1 true x295000 x295001 x295002 x295003 x295004) else (r9_In.j1 k x1 (x295000 == 8) x295000 x295001 x295002 x295003 x295004))
def r9_In.j1 : Nat → Int → Bool → Int → ByteArray → ByteArray → Int → Int → Option (Bool)
 | 0, _, _, _, _, _, _, _ => none
 | k + 1, x1, x18, x295000, x295001, x295002, x295003, x295004 => if x18 = true then (some true) else (if x1 = 1 then (if x295000 = 1 then (some true) else (some (x295000 == 2))) else (if x1 = 2 then (if x295000 = 1 then (some true) else (if x295000 = 3 then (some true) else (some (x295000 == 4)))) else (some (x295000 == 7))))
end
def r9_In.f (k : Nat) (a0_0 : Int) (a0_1 : ByteArray) (a0_2 : ByteArray) (a0_3 : Int) (a0_4 : Int) (a1 : Int) : Option (Bool) := if a1 < 1 then (r9_In.j0 k a1 true a0_0 a0_1 a0_2 a0_3 a0_4) else (r9_In.j0 k a1 (decide (a1 > 3)) a0_0 a0_1 a0_2 a0_3 a0_4)
theorem r9_In.mono_l : ∀ k, (∀ y0 y1 y2 y3 y4 y5 y6, LeO (r9_In.j0 k y0 y1 y2 y3 y4 y5 y6) (r9_In.j0 (k + 1) y0 y1 y2 y3 y4 y5 y6)) ∧ (∀ y0 y1 y2 y3 y4 y5 y6, LeO (r9_In.j1 k y0 y1 y2 y3 y4 y5 y6) (r9_In.j1 (k + 1) y0 y1 y2 y3 y4 y5 y6))
 | 0 => ⟨fun _ _ _ _ _ _ _ r h => by simp [r9_In.j0] at h, fun _ _ _ _ _ _ _ r h => by simp [r9_In.j1] at h⟩
 | k + 1 => by
  obtain ⟨ih0, ih1⟩ := r9_In.mono_l k
  refine ⟨?_, ?_⟩
  ·
   intro y0 y1 y2 y3 y4 y5 y6
   unfold r9_In.j0
   repeat' first
   | (with_reducible exact ih0 _ _ _ _ _ _ _)
   | (with_reducible exact ih1 _ _ _ _ _ _ _)
   | (with_reducible exact LeO.refl _)
   | (with_reducible exact LeO.none _)
   | (with_reducible refine LeO.ite ?_ ?_)
   | (with_reducible refine LeO.bind ?_ (fun _ => ?_))
   | exact ih0 _ _ _ _ _ _ _
   | exact ih1 _ _ _ _ _ _ _
   | exact LeO.none _
   | refine LeO.ite ?_ ?_
   | refine LeO.bind ?_ (fun _ => ?_)
  ·
   intro y0 y1 y2 y3 y4 y5 y6
   unfold r9_In.j1
   repeat' first
   | (with_reducible exact ih0 _ _ _ _ _ _ _)
   | (with_reducible exact ih1 _ _ _ _ _ _ _)
   | (with_reducible exact LeO.refl _)
   | (with_reducible exact LeO.none _)
   | (with_reducible refine LeO.ite ?_ ?_)
   | (with_reducible refine LeO.bind ?_ (fun _ => ?_))
   | exact ih0 _ _ _ _ _ _ _
   | exact ih1 _ _ _ _ _ _ _
   | exact LeO.none _
   | refine LeO.ite ?_ ?_
   | refine LeO.bind ?_ (fun _ => ?_)
theorem r9_In.mono : ∀ a0 a1 a2 a3 a4 a5 k, LeO (r9_In.f k a0 a1 a2 a3 a4 a5) (r9_In.f (k + 1) a0 a1 a2 a3 a4 a5) := by
 intro a0 a1 a2 a3 a4 a5 k
 obtain ⟨ih0, ih1⟩ := r9_In.mono_l k
 unfold r9_In.f
 repeat' first
   | (with_reducible exact ih0 _ _ _ _ _ _ _)
   | (with_reducible exact ih1 _ _ _ _ _ _ _)
   | (with_reducible exact LeO.refl _)
   | (with_reducible exact LeO.none _)
   | (with_reducible refine LeO.ite ?_ ?_)
   | (with_reducible refine LeO.bind ?_ (fun _ => ?_))
   | exact ih0 _ _ _ _ _ _ _
   | exact ih1 _ _ _ _ _ _ _
   | exact LeO.none _
   | refine LeO.ite ?_ ?_
   | refine LeO.bind ?_ (fun _ => ?_)
set_option maxHeartbeats 8000000 in
set_option maxRecDepth 100000 in
theorem r9_In.calls (k : Nat) (a0_0 : Int) (a0_1 : ByteArray) (a0_2 : ByteArray) (a0_3 : Int) (a0_4 : Int) (a1 : Int) (r : Bool) (w : World) (h : r9_In.f k a0_0 a0_1 a0_2 a0_3 a0_4 a1 = some r) :
  Calls Try.prog 14 #[.agg #[.int .i64 a0_0, .string a0_1, .string a0_2, .int .i64 a0_3, .int .i64 a0_4], .int .i64 a1] w fun e w' => e = .returned (.bool r) ∧ Below w.heap.size w w' := by
 have hu23 := Try.underlying23
 have HB := aK (Below.refl w.heap.size w)
 have H : (if a1 < 1 then (r9_In.j0 k a1 true a0_0 a0_1 a0_2 a0_3 a0_4) else (r9_In.j0 k a1 (decide (a1 > 3)) a0_0 a0_1 a0_2 a0_3 a0_4)) = some r := h
 clear h
 have HC3 := aK H
 clear H
 go_enter Try.func14, Try.ntmps14
 go_upto_region 1 with (first | ((with_reducible refine gate_dst (N := 2) rfl ?_); refine box_event ?hg (N := 2) ?hd (cs := #[.int .i64 a0_0, .string a0_1, .string a0_2, .int .i64 a0_3, .int .i64 a0_4]) (t := 23) ?hr ?_; (case hd => rfl); (case hg => rfl); (case hr => first | (go_simp; done) | (go_simp; rfl)); intro gb294 hg w4 hbox hb; have n0_ := aK (bSp (by repeat (first | (with_reducible first | exact HB.out | apply bAl | apply pbD | apply bD1) | exact HB.out)) hb); have n1_ := aK (hbox); have n2_ := aK ((by rw [hg]; exact (bSz (by repeat (first | (with_reducible first | exact HB.out | apply bAl | apply pbD | apply bD1) | exact HB.out))) : w.heap.size ≤ gb294)); have n3_ := aK ((by rw [hg]; exact (bSz (by repeat (first | (with_reducible first | exact HB.out | apply bAl | apply pbD | apply bD1) | exact HB.out))) : w.heap.size ≤ gb294)); clear HB; have HB := n0_; have BK294 := n1_; have GW294 := n2_; have GE294 := n3_; clear n0_ n1_ n2_ n3_; clear hb hbox hg))
 (try simp only [Act.put, qSa, qS0, qS1])
 go_cut [10] (fun v10 wc => ∃ (kq : Nat) (x10_2 : Bool), v10 = .bool x10_2 ∧ Aside0 (r9_In.j0 kq a1 x10_2 a0_0 a0_1 a0_2 a0_3 a0_4 = some r) ∧ Aside0 (kq ≤ k) ∧ Aside0 (wc.heap[gb294]? = some (.cells #[.int .i64 a0_0, .string a0_1, .string a0_2, .int .i64 a0_3, .int .i64 a0_4] 23 (0, 0))) ∧ Aside0 (Below w.heap.size w wc))
 case first =>
  have H := HC3.out
  clear HC3
  by_cases c5 : a1 < 1
  ·
   rw [if_pos c5] at H
   have c5b0 : decide (a1 < 1) = true := decide_eq_true c5
   clear c5
   (first | rw [c5b0] | (simp only [i64_w, i32_w]; rw [c5b0]) | skip)
   have H' := aK H
   clear H
   go_wp2
   go_meet
   case rel => exact ⟨_, (true), (by first | rfl | (simp; done) | (simp [*]; done)), H', ⟨by first | omega | exact Nat.le_refl _⟩, ⟨by (with_reducible repeat (first | refine kDN ?_ _ | refine kDr ?_ | refine kAl ?_ _)); exact BK294.out⟩, ⟨by repeat (first | (with_reducible first | exact HB.out | apply bAl | apply pbD | apply bD1 | refine bSt ?_ GE294.out) | exact HB.out)⟩⟩
  ·
   rw [if_neg c5] at H
   have c5b0 : decide (a1 < 1) = false := decide_eq_false c5
   clear c5
   (first | rw [c5b0] | (simp only [i64_w, i32_w]; rw [c5b0]) | skip)
   have H' := aK H
   clear H
   go_wp2
   go_meet
   case rel => exact ⟨_, (decide (a1 > 3)), (by first | rfl | (simp; done) | (simp [*]; done)), H', ⟨by first | omega | exact Nat.le_refl _⟩, ⟨by (with_reducible repeat (first | refine kDN ?_ _ | refine kDr ?_ | refine kAl ?_ _)); exact BK294.out⟩, ⟨by repeat (first | (with_reducible first | exact HB.out | apply bAl | apply pbD | apply bD1 | refine bSt ?_ GE294.out) | exact HB.out)⟩⟩
 case rest =>
  clear HC3
  try clear c1
  try clear p2
  try clear c5
  try clear c5b0
  obtain ⟨kq, x10_2, rfl, HA, HJ2, BK294, HB⟩ := hcut
  cases kq with
  | zero => exact absurd HA.out (by simp [r9_In.j0])
  | succ kj2 =>
   have H := HA.out
   clear HA
   simp only [r9_In.j0] at H
   by_cases c6 : x10_2 = true
   ·
    subst c6
    have H1 : (some false) = some r := by rw [if_pos rfl] at H; exact H
    clear H
    have H := H1
    clear H1
    obtain rfl := oI H
    go_wp2
    go_ret
    exact ⟨by first | rfl | (simp [eWn, eWs] <;> rfl) | (simp [*, eWn, eWs] <;> rfl), by repeat (first | (with_reducible first | exact HB.out | apply bAl | apply pbD | apply bD1 | refine bSt ?_ GE294.out) | exact HB.out)⟩
   ·
    replace c6 := Bool.eq_false_iff.mpr c6
    subst c6
    have H1 : (if a0_0 = 6 then (r9_In.j1 kj2 a1 true a0_0 a0_1 a0_2 a0_3 a0_4) else (r9_In.j1 kj2 a1 (a0_0 == 8) a0_0 a0_1 a0_2 a0_3 a0_4)) = some r := by rw [if_neg (show ¬ (false = true) by decide)] at H; exact H
    clear H
    have H := H1
    clear H1
    have HC7 := aK H
    clear H
    go_upto_region 3 with (fail)
    go_cut [18] (fun v18 wc => ∃ (kq : Nat) (x18_6 : Bool), v18 = .bool x18_6 ∧ Aside0 (r9_In.j1 kq a1 x18_6 a0_0 a0_1 a0_2 a0_3 a0_4 = some r) ∧ Aside0 (kq ≤ kj2) ∧ Aside0 (wc.heap[gb294]? = some (.cells #[.int .i64 a0_0, .string a0_1, .string a0_2, .int .i64 a0_3, .int .i64 a0_4] 23 (0, 0))) ∧ Aside0 (Below w.heap.size w wc))
    case first =>
     have H := HC7.out
     clear HC7
     by_cases c8 : a0_0 = 6
     ·
      rw [if_pos c8] at H
      have c8b0 : (a0_0 == 6) = true := beq_iff_eq.mpr c8
      have c8b1 : (a0_0 != 6) = false := bne_eq_false_iff_eq.mpr c8
      clear c8
      (first | rw [c8b0] | (simp only [i64_w, i32_w]; rw [c8b0]) | skip)
      have H' := aK H
      clear H
      have hcz9_0 : wc.cell? ⟨gb294, 0, none⟩ = some (.int .i64 a0_0) := (kCe BK294.out 0).trans rfl
      have hcz9_1 : wc.cell? ⟨gb294, 1, none⟩ = some (.string a0_1) := (kCe BK294.out 1).trans rfl
      have hcz9_2 : wc.cell? ⟨gb294, 2, none⟩ = some (.string a0_2) := (kCe BK294.out 2).trans rfl
      have hcz9_3 : wc.cell? ⟨gb294, 3, none⟩ = some (.int .i64 a0_3) := (kCe BK294.out 3).trans rfl
      have hcz9_4 : wc.cell? ⟨gb294, 4, none⟩ = some (.int .i64 a0_4) := (kCe BK294.out 4).trans rfl
      go_wp2
      go_meet
      case rel => exact ⟨_, (true), (by first | rfl | (simp; done) | (simp [*]; done)), H', ⟨by have := HJ2.out; first | omega | exact Nat.le_refl _⟩, ⟨by (with_reducible repeat (first | refine kDN ?_ _ | refine kDr ?_ | refine kAl ?_ _)); exact BK294.out⟩, ⟨by repeat (first | (with_reducible first | exact HB.out | apply bAl | apply pbD | apply bD1 | refine bSt ?_ GE294.out) | exact HB.out)⟩⟩
     ·
      rw [if_neg c8] at H
      have c8b0 : (a0_0 == 6) = false := beq_eq_false_iff_ne.mpr c8
      have c8b1 : (a0_0 != 6) = true := bne_iff_ne.mpr c8
      (first | rw [c8b0] | (simp only [i64_w, i32_w]; rw [c8b0]) | skip)
      have H' := aK H
      clear H
      have hcz10_0 : wc.cell? ⟨gb294, 0, none⟩ = some (.int .i64 a0_0) := (kCe BK294.out 0).trans rfl
      have hcz10_1 : wc.cell? ⟨gb294, 1, none⟩ = some (.string a0_1) := (kCe BK294.out 1).trans rfl
      have hcz10_2 : wc.cell? ⟨gb294, 2, none⟩ = some (.string a0_2) := (kCe BK294.out 2).trans rfl
      have hcz10_3 : wc.cell? ⟨gb294, 3, none⟩ = some (.int .i64 a0_3) := (kCe BK294.out 3).trans rfl
      have hcz10_4 : wc.cell? ⟨gb294, 4, none⟩ = some (.int .i64 a0_4) := (kCe BK294.out 4).trans rfl
      go_wp2
      go_meet
      case rel => exact ⟨_, ((a0_0 == 8)), (by first | rfl | (simp; done) | (simp [*]; done)), H', ⟨by have := HJ2.out; first | omega | exact Nat.le_refl _⟩, ⟨by (with_reducible repeat (first | refine kDN ?_ _ | refine kDr ?_ | refine kAl ?_ _)); exact BK294.out⟩, ⟨by repeat (first | (with_reducible first | exact HB.out | apply bAl | apply pbD | apply bD1 | refine bSt ?_ GE294.out) | exact HB.out)⟩⟩
    case rest =>
     clear HC7
     try clear c1
     try clear p2
     try clear c5
     try clear c5b0
     try clear c6
     try clear c8
     try clear c8b0
     try clear c8b1
     try clear hcz10_0
     try clear hcz10_1
     try clear hcz10_2
     try clear hcz10_3
     try clear hcz10_4
     try clear hcz9_0
     try clear hcz9_1
     try clear hcz9_2
     try clear hcz9_3
     try clear hcz9_4
     try clear p2
     obtain ⟨kq, x18_6, rfl, HA, HJ6, BK294, HB⟩ := hcut
     cases kq with
     | zero => exact absurd HA.out (by simp [r9_In.j1])
     | succ kj6 =>
      have H := HA.out
      clear HA
      simp only [r9_In.j1] at H
      by_cases c11 : x18_6 = true
      ·
       subst c11
       have H1 : (some true) = some r := by rw [if_pos rfl] at H; exact H
       clear H
       have H := H1
       clear H1
       obtain rfl := oI H
       go_wp2
       go_ret
       exact ⟨by first | rfl | (simp [eWn, eWs] <;> rfl) | (simp [*, eWn, eWs] <;> rfl), by repeat (first | (with_reducible first | exact HB.out | apply bAl | apply pbD | apply bD1 | refine bSt ?_ GE294.out) | exact HB.out)⟩
      ·
       replace c11 := Bool.eq_false_iff.mpr c11
       subst c11
       have H1 : (if a1 = 1 then (if a0_0 = 1 then (some true) else (some (a0_0 == 2))) else (if a1 = 2 then (if a0_0 = 1 then (some true) else (if a0_0 = 3 then (some true) else (some (a0_0 == 4)))) else (some (a0_0 == 7)))) = some r := by rw [if_neg (show ¬ (false = true) by decide)] at H; exact H
       clear H
       have H := H1
       clear H1
       by_cases c12 : a1 = 1
       ·
        rw [if_pos c12] at H
        have c12b0 : (a1 == 1) = true := beq_iff_eq.mpr c12
        have c12b1 : (a1 != 1) = false := bne_eq_false_iff_eq.mpr c12
        clear c12
        by_cases c13 : a0_0 = 1
        ·
         rw [if_pos c13] at H
         have c13b0 : (a0_0 == 1) = true := beq_iff_eq.mpr c13
         have c13b1 : (a0_0 != 1) = false := bne_eq_false_iff_eq.mpr c13
         clear c13
         obtain rfl := oI H
         have hcz14_0 : wc.cell? ⟨gb294, 0, none⟩ = some (.int .i64 a0_0) := (kCe BK294.out 0).trans rfl
         have hcz14_1 : wc.cell? ⟨gb294, 1, none⟩ = some (.string a0_1) := (kCe BK294.out 1).trans rfl
         have hcz14_2 : wc.cell? ⟨gb294, 2, none⟩ = some (.string a0_2) := (kCe BK294.out 2).trans rfl
         have hcz14_3 : wc.cell? ⟨gb294, 3, none⟩ = some (.int .i64 a0_3) := (kCe BK294.out 3).trans rfl
         have hcz14_4 : wc.cell? ⟨gb294, 4, none⟩ = some (.int .i64 a0_4) := (kCe BK294.out 4).trans rfl
         go_wp2
         go_ret
         exact ⟨by first | rfl | (simp [eWn, eWs] <;> rfl) | (simp [*, eWn, eWs] <;> rfl), by repeat (first | (with_reducible first | exact HB.out | apply bAl | apply pbD | apply bD1 | refine bSt ?_ GE294.out) | exact HB.out)⟩
        ·
         rw [if_neg c13] at H
         have c13b0 : (a0_0 == 1) = false := beq_eq_false_iff_ne.mpr c13
         have c13b1 : (a0_0 != 1) = true := bne_iff_ne.mpr c13
         obtain rfl := oI H
         have hcz15_0 : wc.cell? ⟨gb294, 0, none⟩ = some (.int .i64 a0_0) := (kCe BK294.out 0).trans rfl
         have hcz15_1 : wc.cell? ⟨gb294, 1, none⟩ = some (.string a0_1) := (kCe BK294.out 1).trans rfl
         have hcz15_2 : wc.cell? ⟨gb294, 2, none⟩ = some (.string a0_2) := (kCe BK294.out 2).trans rfl
         have hcz15_3 : wc.cell? ⟨gb294, 3, none⟩ = some (.int .i64 a0_3) := (kCe BK294.out 3).trans rfl
         have hcz15_4 : wc.cell? ⟨gb294, 4, none⟩ = some (.int .i64 a0_4) := (kCe BK294.out 4).trans rfl
         go_wp2
         go_ret
         exact ⟨by first | rfl | (simp [eWn, eWs] <;> rfl) | (simp [*, eWn, eWs] <;> rfl), by repeat (first | (with_reducible first | exact HB.out | apply bAl | apply pbD | apply bD1 | refine bSt ?_ GE294.out) | exact HB.out)⟩
       ·
        rw [if_neg c12] at H
        have c12b0 : (a1 == 1) = false := beq_eq_false_iff_ne.mpr c12
        have c12b1 : (a1 != 1) = true := bne_iff_ne.mpr c12
        by_cases c16 : a1 = 2
        ·
         rw [if_pos c16] at H
         have c16b0 : (a1 == 2) = true := beq_iff_eq.mpr c16
         have c16b1 : (a1 != 2) = false := bne_eq_false_iff_eq.mpr c16
         clear c16
         by_cases c17 : a0_0 = 1
         ·
          rw [if_pos c17] at H
          have c17b0 : (a0_0 == 1) = true := beq_iff_eq.mpr c17
          have c17b1 : (a0_0 != 1) = false := bne_eq_false_iff_eq.mpr c17
          clear c17
          obtain rfl := oI H
          have hcz18_0 : wc.cell? ⟨gb294, 0, none⟩ = some (.int .i64 a0_0) := (kCe BK294.out 0).trans rfl
          have hcz18_1 : wc.cell? ⟨gb294, 1, none⟩ = some (.string a0_1) := (kCe BK294.out 1).trans rfl
          have hcz18_2 : wc.cell? ⟨gb294, 2, none⟩ = some (.string a0_2) := (kCe BK294.out 2).trans rfl
          have hcz18_3 : wc.cell? ⟨gb294, 3, none⟩ = some (.int .i64 a0_3) := (kCe BK294.out 3).trans rfl
          have hcz18_4 : wc.cell? ⟨gb294, 4, none⟩ = some (.int .i64 a0_4) := (kCe BK294.out 4).trans rfl
          go_wp2
          go_ret
          exact ⟨by first | rfl | (simp [eWn, eWs] <;> rfl) | (simp [*, eWn, eWs] <;> rfl), by repeat (first | (with_reducible first | exact HB.out | apply bAl | apply pbD | apply bD1 | refine bSt ?_ GE294.out) | exact HB.out)⟩
         ·
          rw [if_neg c17] at H
          have c17b0 : (a0_0 == 1) = false := beq_eq_false_iff_ne.mpr c17
          have c17b1 : (a0_0 != 1) = true := bne_iff_ne.mpr c17
          by_cases c19 : a0_0 = 3
          ·
           rw [if_pos c19] at H
           have c19b0 : (a0_0 == 3) = true := beq_iff_eq.mpr c19
           have c19b1 : (a0_0 != 3) = false := bne_eq_false_iff_eq.mpr c19
           clear c19
           obtain rfl := oI H
           have hcz20_0 : wc.cell? ⟨gb294, 0, none⟩ = some (.int .i64 a0_0) := (kCe BK294.out 0).trans rfl
           have hcz20_1 : wc.cell? ⟨gb294, 1, none⟩ = some (.string a0_1) := (kCe BK294.out 1).trans rfl
           have hcz20_2 : wc.cell? ⟨gb294, 2, none⟩ = some (.string a0_2) := (kCe BK294.out 2).trans rfl
           have hcz20_3 : wc.cell? ⟨gb294, 3, none⟩ = some (.int .i64 a0_3) := (kCe BK294.out 3).trans rfl
           have hcz20_4 : wc.cell? ⟨gb294, 4, none⟩ = some (.int .i64 a0_4) := (kCe BK294.out 4).trans rfl
           go_wp2
           go_ret
           exact ⟨by first | rfl | (simp [eWn, eWs] <;> rfl) | (simp [*, eWn, eWs] <;> rfl), by repeat (first | (with_reducible first | exact HB.out | apply bAl | apply pbD | apply bD1 | refine bSt ?_ GE294.out) | exact HB.out)⟩
          ·
           rw [if_neg c19] at H
           have c19b0 : (a0_0 == 3) = false := beq_eq_false_iff_ne.mpr c19
           have c19b1 : (a0_0 != 3) = true := bne_iff_ne.mpr c19
           obtain rfl := oI H
           have hcz21_0 : wc.cell? ⟨gb294, 0, none⟩ = some (.int .i64 a0_0) := (kCe BK294.out 0).trans rfl
           have hcz21_1 : wc.cell? ⟨gb294, 1, none⟩ = some (.string a0_1) := (kCe BK294.out 1).trans rfl
           have hcz21_2 : wc.cell? ⟨gb294, 2, none⟩ = some (.string a0_2) := (kCe BK294.out 2).trans rfl
           have hcz21_3 : wc.cell? ⟨gb294, 3, none⟩ = some (.int .i64 a0_3) := (kCe BK294.out 3).trans rfl
           have hcz21_4 : wc.cell? ⟨gb294, 4, none⟩ = some (.int .i64 a0_4) := (kCe BK294.out 4).trans rfl
           go_wp2
           go_ret
           exact ⟨by first | rfl | (simp [eWn, eWs] <;> rfl) | (simp [*, eWn, eWs] <;> rfl), by repeat (first | (with_reducible first | exact HB.out | apply bAl | apply pbD | apply bD1 | refine bSt ?_ GE294.out) | exact HB.out)⟩
        ·
         rw [if_neg c16] at H
         have c16b0 : (a1 == 2) = false := beq_eq_false_iff_ne.mpr c16
         have c16b1 : (a1 != 2) = true := bne_iff_ne.mpr c16
         obtain rfl := oI H
         have hcz22_0 : wc.cell? ⟨gb294, 0, none⟩ = some (.int .i64 a0_0) := (kCe BK294.out 0).trans rfl
         have hcz22_1 : wc.cell? ⟨gb294, 1, none⟩ = some (.string a0_1) := (kCe BK294.out 1).trans rfl
         have hcz22_2 : wc.cell? ⟨gb294, 2, none⟩ = some (.string a0_2) := (kCe BK294.out 2).trans rfl
         have hcz22_3 : wc.cell? ⟨gb294, 3, none⟩ = some (.int .i64 a0_3) := (kCe BK294.out 3).trans rfl
         have hcz22_4 : wc.cell? ⟨gb294, 4, none⟩ = some (.int .i64 a0_4) := (kCe BK294.out 4).trans rfl
         go_wp2
         go_ret
         exact ⟨by first | rfl | (simp [eWn, eWs] <;> rfl) | (simp [*, eWn, eWs] <;> rfl), by repeat (first | (with_reducible first | exact HB.out | apply bAl | apply pbD | apply bD1 | refine bSt ?_ GE294.out) | exact HB.out)⟩
def r9_Begins.f (a0 : ByteArray) (a1 : ByteArray) : Option (Bool) := if (a0.size : Int) ≤ (a1.size : Int) then (if 0 ≤ (a0.size : Int) then (some ((a1.extract 0 ((a0.size : Int) : Int).toNat).toList == a0.toList)) else (none)) else (some false)
set_option maxHeartbeats 8000000 in
set_option maxRecDepth 100000 in
theorem r9_Begins.calls (a0 : ByteArray) (a1 : ByteArray) (r : Bool) (w : World) (h : r9_Begins.f a0 a1 = some r) :
  Calls Try.prog 25 #[.string a0, .string a1] w fun e w' => e = .returned (.bool r) ∧ Drawn0 w w' := by
 have H : (if (a0.size : Int) ≤ (a1.size : Int) then (if 0 ≤ (a0.size : Int) then (some ((a1.extract 0 ((a0.size : Int) : Int).toNat).toList == a0.toList)) else (none)) else (some false)) = some r := h
 clear h
 by_cases c3 : (a0.size : Int) ≤ (a1.size : Int)
 ·
  rw [if_pos c3] at H
  have c3b0 : decide ((a0.size : Int) ≤ (a1.size : Int)) = true := decide_eq_true c3
  have c3b1 : decide (a0.size ≤ a1.size) = true := decide_eq_true (Int.ofNat_le.mp c3)
  clear c3
  by_cases c4 : 0 ≤ (a0.size : Int)
  ·
   rw [if_pos c4] at H
   have c4b0 := eq_true c4
   have c4b1 : decide (0 ≤ (a0.size : Int)) = true := decide_eq_true c4
   clear c4
   have c5b0 := eq_true (odT (by first | (with_reducible assumption) | assumption) : (a0.size : Int) ≤ (a1.size : Int))
   obtain rfl := oI H
   go_enter Try.func25, Try.ntmps25
   go_wp2
   go_ret
   exact ⟨by first | rfl | (simp; done) | (simp [*]; done), by repeat (first | exact Drawn0.refl _ | apply Drawn0.step)⟩
  ·
   rw [if_neg c4] at H
   exact absurd H (by simp)
 ·
  rw [if_neg c3] at H
  have c3b0 : decide ((a0.size : Int) ≤ (a1.size : Int)) = false := decide_eq_false c3
  have c3b1 : decide (a0.size ≤ a1.size) = false := decide_eq_false (fun h => c3 (Int.ofNat_le.mpr h))
  clear c3
  obtain rfl := oI H
  go_enter Try.func25, Try.ntmps25
  go_wp2
  go_ret
  exact ⟨by first | rfl | (simp; done) | (simp [*]; done), by repeat (first | exact Drawn0.refl _ | apply Drawn0.step)⟩
def r9_Kept.f (a0_0 : Int) (a0_1 : ByteArray) (a0_2 : ByteArray) (a0_3 : Int) (a0_4 : Int) : Option (Bool) := if a0_0 = 8 then (if a0_1.toList = ([98, 108, 107] : List UInt8) then (some true) else (if a0_1.toList = ([99, 111, 110, 116] : List UInt8) then (some true) else (some (a0_1.toList == ([105, 110, 100] : List UInt8))))) else (some false)
set_option maxHeartbeats 8000000 in
set_option maxRecDepth 100000 in
theorem r9_Kept.calls (a0_0 : Int) (a0_1 : ByteArray) (a0_2 : ByteArray) (a0_3 : Int) (a0_4 : Int) (r : Bool) (w : World) (h : r9_Kept.f a0_0 a0_1 a0_2 a0_3 a0_4 = some r) :
  Calls Try.prog 26 #[.agg #[.int .i64 a0_0, .string a0_1, .string a0_2, .int .i64 a0_3, .int .i64 a0_4]] w fun e w' => e = .returned (.bool r) ∧ Below w.heap.size w w' := by
 have hu23 := Try.underlying23
 have HB := aK (Below.refl w.heap.size w)
 have H : (if a0_0 = 8 then (if a0_1.toList = ([98, 108, 107] : List UInt8) then (some true) else (if a0_1.toList = ([99, 111, 110, 116] : List UInt8) then (some true) else (some (a0_1.toList == ([105, 110, 100] : List UInt8))))) else (some false)) = some r := h
 clear h
 by_cases c2 : a0_0 = 8
 ·
  rw [if_pos c2] at H
  have c2b0 : (a0_0 == 8) = true := beq_iff_eq.mpr c2
  have c2b1 : (a0_0 != 8) = false := bne_eq_false_iff_eq.mpr c2
  clear c2
  by_cases c3 : a0_1.toList = ([98, 108, 107] : List UInt8)
  ·
   rw [if_pos c3] at H
   have c3b0 : (a0_1.toList == ([98, 108, 107] : List UInt8)) = true := beq_iff_eq.mpr c3
   have c3b1 : (a0_1.toList != ([98, 108, 107] : List UInt8)) = false := bne_eq_false_iff_eq.mpr c3
   clear c3
   obtain rfl := oI H
   go_enter Try.func26, Try.ntmps26
   go_wp2_with (first | ((with_reducible refine gate_dst (N := 1) rfl ?_); refine box_event ?hg (N := 1) ?hd (cs := #[.int .i64 a0_0, .string a0_1, .string a0_2, .int .i64 a0_3, .int .i64 a0_4]) (t := 23) ?hr ?_; (case hd => rfl); (case hg => rfl); (case hr => first | (go_simp; done) | (go_simp; rfl)); intro gb295 hg w4 hbox hb; have n0_ := aK (bSp (by repeat (first | (with_reducible first | exact HB.out | apply bAl | apply pbD | apply bD1) | exact HB.out)) hb); have n1_ := aK (hbox); have n2_ := aK ((by rw [hg]; exact (bSz (by repeat (first | (with_reducible first | exact HB.out | apply bAl | apply pbD | apply bD1) | exact HB.out))) : w.heap.size ≤ gb295)); have n3_ := aK ((by rw [hg]; exact (bSz (by repeat (first | (with_reducible first | exact HB.out | apply bAl | apply pbD | apply bD1) | exact HB.out))) : w.heap.size ≤ gb295)); clear HB; have HB := n0_; have BK295 := n1_; have GW295 := n2_; have GE295 := n3_; clear n0_ n1_ n2_ n3_; clear hb hbox hg; have hcz5_0 : w4.cell? ⟨gb295, 0, none⟩ = some (.int .i64 a0_0) := (kCe BK295.out 0).trans rfl; have hcz5_1 : w4.cell? ⟨gb295, 1, none⟩ = some (.string a0_1) := (kCe BK295.out 1).trans rfl; have hcz5_2 : w4.cell? ⟨gb295, 2, none⟩ = some (.string a0_2) := (kCe BK295.out 2).trans rfl; have hcz5_3 : w4.cell? ⟨gb295, 3, none⟩ = some (.int .i64 a0_3) := (kCe BK295.out 3).trans rfl; have hcz5_4 : w4.cell? ⟨gb295, 4, none⟩ = some (.int .i64 a0_4) := (kCe BK295.out 4).trans rfl))
   go_ret
   exact ⟨by first | rfl | (simp [eWn, eWs] <;> rfl) | (simp [*, eWn, eWs] <;> rfl), by repeat (first | (with_reducible first | exact HB.out | apply bAl | apply pbD | apply bD1 | refine bSt ?_ GE295.out) | exact HB.out)⟩
  ·
   rw [if_neg c3] at H
   have c3b0 : (a0_1.toList == ([98, 108, 107] : List UInt8)) = false := beq_eq_false_iff_ne.mpr c3
   have c3b1 : (a0_1.toList != ([98, 108, 107] : List UInt8)) = true := bne_iff_ne.mpr c3
   by_cases c6 : a0_1.toList = ([99, 111, 110, 116] : List UInt8)
   ·
    rw [if_pos c6] at H
    have c6b0 : (a0_1.toList == ([99, 111, 110, 116] : List UInt8)) = true := beq_iff_eq.mpr c6
    have c6b1 : (a0_1.toList != ([99, 111, 110, 116] : List UInt8)) = false := bne_eq_false_iff_eq.mpr c6
    clear c6
    obtain rfl := oI H
    go_enter Try.func26, Try.ntmps26
    go_wp2_with (first | ((with_reducible refine gate_dst (N := 1) rfl ?_); refine box_event ?hg (N := 1) ?hd (cs := #[.int .i64 a0_0, .string a0_1, .string a0_2, .int .i64 a0_3, .int .i64 a0_4]) (t := 23) ?hr ?_; (case hd => rfl); (case hg => rfl); (case hr => first | (go_simp; done) | (go_simp; rfl)); intro gb295 hg w7 hbox hb; have n0_ := aK (bSp (by repeat (first | (with_reducible first | exact HB.out | apply bAl | apply pbD | apply bD1) | exact HB.out)) hb); have n1_ := aK (hbox); have n2_ := aK ((by rw [hg]; exact (bSz (by repeat (first | (with_reducible first | exact HB.out | apply bAl | apply pbD | apply bD1) | exact HB.out))) : w.heap.size ≤ gb295)); have n3_ := aK ((by rw [hg]; exact (bSz (by repeat (first | (with_reducible first | exact HB.out | apply bAl | apply pbD | apply bD1) | exact HB.out))) : w.heap.size ≤ gb295)); clear HB; have HB := n0_; have BK295 := n1_; have GW295 := n2_; have GE295 := n3_; clear n0_ n1_ n2_ n3_; clear hb hbox hg; have hcz8_0 : w7.cell? ⟨gb295, 0, none⟩ = some (.int .i64 a0_0) := (kCe BK295.out 0).trans rfl; have hcz8_1 : w7.cell? ⟨gb295, 1, none⟩ = some (.string a0_1) := (kCe BK295.out 1).trans rfl; have hcz8_2 : w7.cell? ⟨gb295, 2, none⟩ = some (.string a0_2) := (kCe BK295.out 2).trans rfl; have hcz8_3 : w7.cell? ⟨gb295, 3, none⟩ = some (.int .i64 a0_3) := (kCe BK295.out 3).trans rfl; have hcz8_4 : w7.cell? ⟨gb295, 4, none⟩ = some (.int .i64 a0_4) := (kCe BK295.out 4).trans rfl))
    go_ret
    exact ⟨by first | rfl | (simp [eWn, eWs] <;> rfl) | (simp [*, eWn, eWs] <;> rfl), by repeat (first | (with_reducible first | exact HB.out | apply bAl | apply pbD | apply bD1 | refine bSt ?_ GE295.out) | exact HB.out)⟩
   ·
    rw [if_neg c6] at H
    have c6b0 : (a0_1.toList == ([99, 111, 110, 116] : List UInt8)) = false := beq_eq_false_iff_ne.mpr c6
    have c6b1 : (a0_1.toList != ([99, 111, 110, 116] : List UInt8)) = true := bne_iff_ne.mpr c6
    obtain rfl := oI H
    go_enter Try.func26, Try.ntmps26
    go_wp2_with (first | ((with_reducible refine gate_dst (N := 1) rfl ?_); refine box_event ?hg (N := 1) ?hd (cs := #[.int .i64 a0_0, .string a0_1, .string a0_2, .int .i64 a0_3, .int .i64 a0_4]) (t := 23) ?hr ?_; (case hd => rfl); (case hg => rfl); (case hr => first | (go_simp; done) | (go_simp; rfl)); intro gb295 hg w9 hbox hb; have n0_ := aK (bSp (by repeat (first | (with_reducible first | exact HB.out | apply bAl | apply pbD | apply bD1) | exact HB.out)) hb); have n1_ := aK (hbox); have n2_ := aK ((by rw [hg]; exact (bSz (by repeat (first | (with_reducible first | exact HB.out | apply bAl | apply pbD | apply bD1) | exact HB.out))) : w.heap.size ≤ gb295)); have n3_ := aK ((by rw [hg]; exact (bSz (by repeat (first | (with_reducible first | exact HB.out | apply bAl | apply pbD | apply bD1) | exact HB.out))) : w.heap.size ≤ gb295)); clear HB; have HB := n0_; have BK295 := n1_; have GW295 := n2_; have GE295 := n3_; clear n0_ n1_ n2_ n3_; clear hb hbox hg; have hcz10_0 : w9.cell? ⟨gb295, 0, none⟩ = some (.int .i64 a0_0) := (kCe BK295.out 0).trans rfl; have hcz10_1 : w9.cell? ⟨gb295, 1, none⟩ = some (.string a0_1) := (kCe BK295.out 1).trans rfl; have hcz10_2 : w9.cell? ⟨gb295, 2, none⟩ = some (.string a0_2) := (kCe BK295.out 2).trans rfl; have hcz10_3 : w9.cell? ⟨gb295, 3, none⟩ = some (.int .i64 a0_3) := (kCe BK295.out 3).trans rfl; have hcz10_4 : w9.cell? ⟨gb295, 4, none⟩ = some (.int .i64 a0_4) := (kCe BK295.out 4).trans rfl))
    go_ret
    exact ⟨by first | rfl | (simp [eWn, eWs] <;> rfl) | (simp [*, eWn, eWs] <;> rfl), by repeat (first | (with_reducible first | exact HB.out | apply bAl | apply pbD | apply bD1 | refine bSt ?_ GE295.out) | exact HB.out)⟩
 ·
  rw [if_neg c2] at H
  have c2b0 : (a0_0 == 8) = false := beq_eq_false_iff_ne.mpr c2
  have c2b1 : (a0_0 != 8) = true := bne_iff_ne.mpr c2
  obtain rfl := oI H
  go_enter Try.func26, Try.ntmps26
  go_wp2_with (first | ((with_reducible refine gate_dst (N := 1) rfl ?_); refine box_event ?hg (N := 1) ?hd (cs := #[.int .i64 a0_0, .string a0_1, .string a0_2, .int .i64 a0_3, .int .i64 a0_4]) (t := 23) ?hr ?_; (case hd => rfl); (case hg => rfl); (case hr => first | (go_simp; done) | (go_simp; rfl)); intro gb295 hg w11 hbox hb; have n0_ := aK (bSp (by repeat (first | (with_reducible first | exact HB.out | apply bAl | apply pbD | apply bD1) | exact HB.out)) hb); have n1_ := aK (hbox); have n2_ := aK ((by rw [hg]; exact (bSz (by repeat (first | (with_reducible first | exact HB.out | apply bAl | apply pbD | apply bD1) | exact HB.out))) : w.heap.size ≤ gb295)); have n3_ := aK ((by rw [hg]; exact (bSz (by repeat (first | (with_reducible first | exact HB.out | apply bAl | apply pbD | apply bD1) | exact HB.out))) : w.heap.size ≤ gb295)); clear HB; have HB := n0_; have BK295 := n1_; have GW295 := n2_; have GE295 := n3_; clear n0_ n1_ n2_ n3_; clear hb hbox hg; have hcz12_0 : w11.cell? ⟨gb295, 0, none⟩ = some (.int .i64 a0_0) := (kCe BK295.out 0).trans rfl; have hcz12_1 : w11.cell? ⟨gb295, 1, none⟩ = some (.string a0_1) := (kCe BK295.out 1).trans rfl; have hcz12_2 : w11.cell? ⟨gb295, 2, none⟩ = some (.string a0_2) := (kCe BK295.out 2).trans rfl; have hcz12_3 : w11.cell? ⟨gb295, 3, none⟩ = some (.int .i64 a0_3) := (kCe BK295.out 3).trans rfl; have hcz12_4 : w11.cell? ⟨gb295, 4, none⟩ = some (.int .i64 a0_4) := (kCe BK295.out 4).trans rfl))
  go_ret
  exact ⟨by first | rfl | (simp [eWn, eWs] <;> rfl) | (simp [*, eWn, eWs] <;> rfl), by repeat (first | (with_reducible first | exact HB.out | apply bAl | apply pbD | apply bD1 | refine bSt ?_ GE295.out) | exact HB.out)⟩
def r9_within.l0 : Nat → ByteArray → ByteArray → Int → Option (Bool)
 | 0, _, _, _ => none
 | k + 1, x0, x1, x5 => if x5 ≤ (x1.size : Int) then (if 0 ≤ x5 then ((r9_Begins.f x0 (x1.extract (x5 : Int).toNat x1.size)).bind fun t296 => (if t296 = true then (some true) else (r9_within.l0 k x0 x1 (wrap64 (x5 + 1))))) else (none)) else (some false)
def r9_within.f (k : Nat) (a0 : ByteArray) (a1 : ByteArray) : Option (Bool) := r9_within.l0 k a0 a1 0
theorem r9_within.mono_l : ∀ k, (∀ y0 y1 y2, LeO (r9_within.l0 k y0 y1 y2) (r9_within.l0 (k + 1) y0 y1 y2))
 | 0 => fun _ _ _ r h => by simp [r9_within.l0] at h
 | k + 1 => by
  have ih0 := r9_within.mono_l k
  ·
   intro y0 y1 y2
   unfold r9_within.l0
   repeat' first
   | (with_reducible exact ih0 _ _ _)
   | (with_reducible exact LeO.refl _)
   | (with_reducible exact LeO.none _)
   | (with_reducible refine LeO.ite ?_ ?_)
   | (with_reducible refine LeO.bind ?_ (fun _ => ?_))
   | exact ih0 _ _ _
   | exact LeO.none _
   | refine LeO.ite ?_ ?_
   | refine LeO.bind ?_ (fun _ => ?_)
theorem r9_within.mono : ∀ a0 a1 k, LeO (r9_within.f k a0 a1) (r9_within.f (k + 1) a0 a1) := by
 intro a0 a1 k
 have ih0 := r9_within.mono_l k
 unfold r9_within.f
 repeat' first
   | (with_reducible exact ih0 _ _ _)
   | (with_reducible exact LeO.refl _)
   | (with_reducible exact LeO.none _)
   | (with_reducible refine LeO.ite ?_ ?_)
   | (with_reducible refine LeO.bind ?_ (fun _ => ?_))
   | exact ih0 _ _ _
   | exact LeO.none _
   | refine LeO.ite ?_ ?_
   | refine LeO.bind ?_ (fun _ => ?_)
set_option maxHeartbeats 8000000 in
set_option maxRecDepth 100000 in
theorem r9_within.calls (k : Nat) (a0 : ByteArray) (a1 : ByteArray) (r : Bool) (w : World) (h : r9_within.f k a0 a1 = some r) :
  Calls Try.prog 27 #[.string a0, .string a1] w fun e w' => e = .returned (.bool r) ∧ Drawn0 w w' := by
 have H : (r9_within.l0 k a0 a1 0) = some r := h
 clear h
 have H' := aK H
 clear H
 go_enter Try.func27, Try.ntmps27
 go_wp2
 go_loopg [5] k (fun kq v5 w' => ∃ (x5_1 : Int), v5 = .int .i64 x5_1 ∧ Aside0 (r9_within.l0 kq a0 a1 x5_1 = some r) ∧ Aside0 (kq ≤ k) ∧ Drawn0 w w')
 case atStart => exact ⟨(0), (by first | rfl | (simp; done) | (simp [*]; done)), H', ⟨Nat.le_refl _⟩, by repeat (first | exact Drawn0.refl _ | apply Drawn0.step)⟩
 case round =>
  clear H'
  try clear c2
  try clear p2
  obtain ⟨x5_1, rfl, HA, HK1, ⟨m1, rfl⟩⟩ := hrel
  cases gk with
  | zero => exact absurd HA.out (by simp [r9_within.l0])
  | succ k1 =>
   have H := HA.out
   clear HA
   simp only [r9_within.l0] at H
   by_cases c3 : x5_1 ≤ (a1.size : Int)
   ·
    rw [if_pos c3] at H
    have c3b0 : decide (x5_1 ≤ (a1.size : Int)) = true := decide_eq_true c3
    clear c3
    by_cases c4 : 0 ≤ x5_1
    ·
     rw [if_pos c4] at H
     have c4b0 := eq_true c4
     have c4b1 : decide (0 ≤ x5_1) = true := decide_eq_true c4
     clear c4
     have c5b0 := eq_true (odT (by first | (with_reducible assumption) | assumption) : x5_1 ≤ (a1.size : Int))
     replace H := oB H
     obtain ⟨t296, A60, H⟩ := H
     try dsimp only at H
     have A6 := aK A60
     clear A60
     by_cases c7 : t296 = true
     ·
      subst c7
      have H1 : (some true) = some r := by rw [if_pos rfl] at H; exact H
      clear H
      have H := H1
      clear H1
      obtain rfl := oI H
      go_wp2_with (first | ((with_reducible refine gate_callee (f := 25) rfl ?_); refine goesL_ (some 16) rfl rfl Try.func25 (by kernel_rfl) rfl #[.string a0, .string (a1.extract (x5_1 : Int).toNat a1.size)] rfl (by (try simp only [qM0, qM1, qM2]); first | done | rfl | (simp only [qD0, qD1]; rfl)) ?_; (with_reducible refine (r9_Begins.calls a0 (a1.extract (x5_1 : Int).toNat a1.size) true _ A6.out).mono ?_); rintro e w' ⟨rfl, ⟨nd, rfl⟩⟩; refine ⟨_, rfl, ?_⟩))
      go_ret
      exact ⟨by first | rfl | (simp; done) | (simp [*]; done), by repeat (first | exact Drawn0.refl _ | apply Drawn0.step)⟩
     ·
      replace c7 := Bool.eq_false_iff.mpr c7
      subst c7
      have H1 : (r9_within.l0 k1 a0 a1 (wrap64 (x5_1 + 1))) = some r := by rw [if_neg (show ¬ (false = true) by decide)] at H; exact H
      clear H
      have H := H1
      clear H1
      have H' := aK H
      clear H
      go_wp2_with (first | ((with_reducible refine gate_callee (f := 25) rfl ?_); refine goesL_ (some 16) rfl rfl Try.func25 (by kernel_rfl) rfl #[.string a0, .string (a1.extract (x5_1 : Int).toNat a1.size)] rfl (by (try simp only [qM0, qM1, qM2]); first | done | rfl | (simp only [qD0, qD1]; rfl)) ?_; (with_reducible refine (r9_Begins.calls a0 (a1.extract (x5_1 : Int).toNat a1.size) false _ A6.out).mono ?_); rintro e w' ⟨rfl, ⟨nd, rfl⟩⟩; refine ⟨_, rfl, ?_⟩))
      go_roundg k1
      case measure => have := HK1.out; omega
      case rel => exact ⟨(wrap64 (x5_1 + 1)), (by first | rfl | (simp; done) | (simp [*]; done)), H', ⟨by have := HK1.out; omega⟩, by repeat (first | exact Drawn0.refl _ | apply Drawn0.step)⟩
    ·
     rw [if_neg c4] at H
     exact absurd H (by simp)
   ·
    rw [if_neg c3] at H
    have c3b0 : decide (x5_1 ≤ (a1.size : Int)) = false := decide_eq_false c3
    clear c3
    obtain rfl := oI H
    go_wp2
    go_ret
    exact ⟨by first | rfl | (simp; done) | (simp [*]; done), by repeat (first | exact Drawn0.refl _ | apply Drawn0.step)⟩
end Go.Proofs.Ytgjkjoocnkdckaa.PChk
