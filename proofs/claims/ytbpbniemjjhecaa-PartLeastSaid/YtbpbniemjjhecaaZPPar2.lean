import Derived.Test.YtbpbniemjjhecaaZPChk0
import Derived.Test.YtbpbniemjjhecaaZPPar1
namespace Go.Proofs.Ytbpbniemjjhecaa.PChk
open Go.RowKit Go.Proofs.Ytbpbniemjjhecaa.G Go.Proofs.YtbpbniemjjhecaaW.PrintWords Go.Proofs.YtbpbniemjjhecaaW.PrintLast Go.Proofs.YtbpbniemjjhecaaW.PrintMore
attribute [local go_sem] max2_int min2_int max_two min_two max_three min_three max_four min_four
set_option linter.unusedVariables false
set_option linter.unusedSimpArgs false
set_option maxHeartbeats 8000000
set_option maxRecDepth 100000
def part_Eligible.f (a0_0 : Int) (a0_1 : ByteArray) (a0_2 : ByteArray) (a0_3 : Int) (a0_4 : Int) (a1 : ByteArray) (a2 : Int) (a3 : Int) : Option (Bool) := (part_spot_is.f a1 a2 a3).bind fun t119 => (if t119 = true then (if (a0_1.size : Int) > 0 then ((part_spot_left.f a1 a2 a3).bind fun t120 => (if (a0_1.size : Int) ≤ t120 then (if 0 ≤ a2 then (if a2 ≤ (wrap64 (a2 + (a0_1.size : Int))) then (if (wrap64 (a2 + (a0_1.size : Int))) ≤ (a1.size : Int) then (if (a1.extract (a2 : Int).toNat ((wrap64 (a2 + (a0_1.size : Int))) : Int).toNat).toList = a0_1.toList then ((part_spot_may.f a1 a2 a3 a0_0 (a0_1.size : Int)).bind fun t121 => (some t121)) else (some false)) else (none)) else (none)) else (none)) else (some false))) else (some false)) else (some false))
def part_Eligible.T3 : Bool × List (List Nat × List Nat) := (true, [([], []), ([0], [0]), ([1, 1], [1]), ([2], [2]), ([3, 2], [2, 3]), ([2, 4], [2, 4]), ([5, 2], [5]), ([6], [6]), ([6], [6]), ([8, 6, 6], [6, 8]), ([7, 9, 6], [6, 7, 9]), ([6, 10], [6, 10]), ([11, 9], [11]), ([12], [12]), ([12], [12]), ([12], [12]), ([12], [12]), ([15, 16, 12], [12, 15, 16]), ([13, 14, 17, 12], [12, 13, 14, 17]), ([12], [12]), ([19, 12], [12, 19]), ([18, 20, 12], [12, 18, 20]), ([12, 21], [12, 21]), ([22, 12], [22]), ([23], [23]), ([23], [23]), ([25, 23], [23, 25]), ([23], [23]), ([24, 26, 27, 23, 23], [23, 24, 26, 27]), ([23, 28], [23, 28]), ([29, 28, 0, 1, 2, 3, 4, 5, 6, 7, 8, 9, 10, 11, 12, 13, 14, 15, 16, 17, 18, 19, 20, 21, 22, 23, 24, 25, 26, 27, 28, 29], [29])])
def part_Eligible.B3 : List Nat := [0, 1, 3, 7, 15, 31, 63, 127, 127, 383, 1023, 2047, 4095, 8191, 8191, 8191, 8191, 106495, 262143, 8191, 532479, 2097151, 4194303, 8388607, 16777215, 16777215, 50331647, 16777215, 268435455, 536870911, 1073741823]
theorem part_Eligible.tab3 : rtab .any (opsOf Try.f31 3) = part_Eligible.T3 := by kernel_rfl
theorem part_Eligible.bits3 : waitsOk part_Eligible.T3.2 part_Eligible.B3 = true := by kernel_rfl
theorem part_Eligible.calls (a0_0 : Int) (a0_1 : ByteArray) (a0_2 : ByteArray) (a0_3 : Int) (a0_4 : Int) (a1 : ByteArray) (a2 : Int) (a3 : Int) (r : Bool) (w : World) (h : part_Eligible.f a0_0 a0_1 a0_2 a0_3 a0_4 a1 a2 a3 = some r) :
  Calls Try.prog 31 #[.agg #[.int .i64 a0_0, .string a0_1, .string a0_2, .int .i64 a0_3, .int .i64 a0_4], .string a1, .int .i64 a2, .int .i64 a3] w fun e w' => e = .returned (.bool r) ∧ Below w.heap.size w w' := by
 have hu33 := Try.underlying33
 have hu84 := Try.underlying84
 have HB := aK (Below.refl w.heap.size w)
 have H : ((part_spot_is.f a1 a2 a3).bind fun t119 => (if t119 = true then (if (a0_1.size : Int) > 0 then ((part_spot_left.f a1 a2 a3).bind fun t120 => (if (a0_1.size : Int) ≤ t120 then (if 0 ≤ a2 then (if a2 ≤ (wrap64 (a2 + (a0_1.size : Int))) then (if (wrap64 (a2 + (a0_1.size : Int))) ≤ (a1.size : Int) then (if (a1.extract (a2 : Int).toNat ((wrap64 (a2 + (a0_1.size : Int))) : Int).toNat).toList = a0_1.toList then ((part_spot_may.f a1 a2 a3 a0_0 (a0_1.size : Int)).bind fun t121 => (some t121)) else (some false)) else (none)) else (none)) else (none)) else (some false))) else (some false)) else (some false))) = some r := h
 clear h
 replace H := oB H
 obtain ⟨t119, A50, H⟩ := H
 try dsimp only at H
 have A5 := aK A50
 clear A50
 by_cases c6 : t119 = true
 rotate_left
 ·
  replace c6 := Bool.eq_false_iff.mpr c6
  subst c6
  have H1 : (some false) = some r := by rw [if_neg (show ¬ (false = true) by decide)] at H; exact H
  clear H
  have H := H1
  clear H1
  obtain rfl := oI H
  go_enter Try.func31, Try.ntmps31
  try go_wp2_with (first | ((with_reducible refine gate_dst (N := 4) rfl ?_); refine box_event ?hg (N := 4) ?hd (cs := #[.int .i64 a0_0, .string a0_1, .string a0_2, .int .i64 a0_3, .int .i64 a0_4]) (t := 33) ?hr ?_; (case hd => rfl); (case hg => rfl); (case hr => first | (go_simp; done) | (go_simp; rfl)); intro gb117 hg w51 hbox hb; have n0_ := aK (bSp (by repeat (first | (with_reducible first | exact HB.out | apply bAl | apply pbD | apply bD1) | exact HB.out)) hb); have n1_ := aK (hbox); have n2_ := aK ((by rw [hg]; exact (bSz (by repeat (first | (with_reducible first | exact HB.out | apply bAl | apply pbD | apply bD1) | exact HB.out))) : w.heap.size ≤ gb117)); have n3_ := aK ((by rw [hg]; exact (bSz (by repeat (first | (with_reducible first | exact HB.out | apply bAl | apply pbD | apply bD1) | exact HB.out))) : w.heap.size ≤ gb117)); clear HB; have HB := n0_; have BK117 := n1_; have GW117 := n2_; have GE117 := n3_; clear n0_ n1_ n2_ n3_; clear hb hbox hg) | ((with_reducible refine gate_dst (N := 9) rfl ?_); refine box_event ?hg (N := 9) ?hd (cs := #[.string (⟨#[]⟩ : ByteArray), .int .i64 0, .int .i64 0]) (t := 84) ?hr ?_; (case hd => rfl); (case hg => rfl); (case hr => first | (go_simp; done) | (go_simp; rfl)); intro gb118 hg w52 hbox hb; have n0_ := aK (kBe (g := gb117) (o := .cells #[.int .i64 a0_0, .string a0_1, .string a0_2, .int .i64 a0_3, .int .i64 a0_4] 33 (0, 0)) (by (with_reducible repeat (first | refine kDN ?_ _ | refine kDr ?_ | refine kAl ?_ _)); exact BK117.out) hb); have n1_ := aK (bSp (by repeat (first | (with_reducible first | exact HB.out | apply bAl | apply pbD | apply bD1 | refine bSt ?_ GE117.out) | exact HB.out)) hb); have n2_ := aK (hbox); have n3_ := aK ((by rw [hg]; exact (bSz (by repeat (first | (with_reducible first | exact HB.out | apply bAl | apply pbD | apply bD1 | refine bSt ?_ GE117.out) | exact HB.out))) : w.heap.size ≤ gb118)); have n4_ := aK ((by rw [hg]; exact (bSz (by repeat (first | (with_reducible first | exact HB.out | apply bAl | apply pbD | apply bD1 | refine bSt ?_ GE117.out) | exact HB.out))) : w.heap.size ≤ gb118)); have n5_ := aK ((by rw [hg]; exact Nat.ne_of_lt (blk_lt (g := gb117) (o := .cells #[.int .i64 a0_0, .string a0_1, .string a0_2, .int .i64 a0_3, .int .i64 a0_4] 33 (0, 0)) (by (with_reducible repeat (first | refine kDN ?_ _ | refine kDr ?_ | refine kAl ?_ _)); exact BK117.out)) : gb117 ≠ gb118)); have n6_ := aK ((by rw [hg]; exact Nat.ne_of_gt (blk_lt (g := gb117) (o := .cells #[.int .i64 a0_0, .string a0_1, .string a0_2, .int .i64 a0_3, .int .i64 a0_4] 33 (0, 0)) (by (with_reducible repeat (first | refine kDN ?_ _ | refine kDr ?_ | refine kAl ?_ _)); exact BK117.out)) : gb118 ≠ gb117)); clear BK117; clear HB; have BK117 := n0_; have HB := n1_; have BK118 := n2_; have GW118 := n3_; have GE118 := n4_; have NB117_118 := n5_; have NB118_117 := n6_; clear n0_ n1_ n2_ n3_ n4_ n5_ n6_; clear hb hbox hg; have hnb53 := NB118_117.out; have hnc53 := NB117_118.out; have hcz54_0 : w52.cell? ⟨gb118, 0, none⟩ = some (.string (⟨#[]⟩ : ByteArray)) := (kCe BK118.out 0).trans rfl; have hcz54_1 : w52.cell? ⟨gb118, 1, none⟩ = some (.int .i64 0) := (kCe BK118.out 1).trans rfl; have hcz54_2 : w52.cell? ⟨gb118, 2, none⟩ = some (.int .i64 0) := (kCe BK118.out 2).trans rfl; have hfz54_0 := bFz BK118.out 0; have hfz54_1 := bFz BK118.out 1; have hfz54_2 := bFz BK118.out 2; have hcz55_0 : w52.cell? ⟨gb117, 0, none⟩ = some (.int .i64 a0_0) := (kCe BK117.out 0).trans rfl; have hcz55_1 : w52.cell? ⟨gb117, 1, none⟩ = some (.string a0_1) := (kCe BK117.out 1).trans rfl; have hcz55_2 : w52.cell? ⟨gb117, 2, none⟩ = some (.string a0_2) := (kCe BK117.out 2).trans rfl; have hcz55_3 : w52.cell? ⟨gb117, 3, none⟩ = some (.int .i64 a0_3) := (kCe BK117.out 3).trans rfl; have hcz55_4 : w52.cell? ⟨gb117, 4, none⟩ = some (.int .i64 a0_4) := (kCe BK117.out 4).trans rfl; have hfz55_0 := bFz BK117.out 0; have hfz55_1 := bFz BK117.out 1; have hfz55_2 := bFz BK117.out 2; have hfz55_3 := bFz BK117.out 3; have hfz55_4 := bFz BK117.out 4))
  have n0_ : Aside0 ((((w52.setCell ⟨gb118, 0, none⟩ (.string a1)).setCell ⟨gb118, 1, none⟩ (.int .i64 a2)).setCell ⟨gb118, 2, none⟩ (.int .i64 a3)).heap[gb117]? = some (.cells #[.int .i64 a0_0, .string a0_1, .string a0_2, .int .i64 a0_3, .int .i64 a0_4] 33 (0, 0))) := ⟨by (with_reducible repeat (first | refine kDN ?_ _ | refine kDr ?_ | refine kAl ?_ _)); refine blk_far ?_ NB117_118.out _; (with_reducible repeat (first | refine kDN ?_ _ | refine kDr ?_ | refine kAl ?_ _)); refine blk_far ?_ NB117_118.out _; (with_reducible repeat (first | refine kDN ?_ _ | refine kDr ?_ | refine kAl ?_ _)); refine blk_far ?_ NB117_118.out _; (with_reducible repeat (first | refine kDN ?_ _ | refine kDr ?_ | refine kAl ?_ _)); exact BK117.out⟩
  have n1_ : Aside0 ((((w52.setCell ⟨gb118, 0, none⟩ (.string a1)).setCell ⟨gb118, 1, none⟩ (.int .i64 a2)).setCell ⟨gb118, 2, none⟩ (.int .i64 a3)).heap[gb118]? = some (.cells #[.string a1, .int .i64 a2, .int .i64 a3] 84 (0, 0))) := ⟨by (with_reducible repeat (first | refine kDN ?_ _ | refine kDr ?_ | refine kAl ?_ _)); refine blk_put (cs := #[.string a1, .int .i64 a2, .int .i64 0]) ?_ 2 _ rfl; (with_reducible repeat (first | refine kDN ?_ _ | refine kDr ?_ | refine kAl ?_ _)); refine blk_put (cs := #[.string a1, .int .i64 0, .int .i64 0]) ?_ 1 _ rfl; (with_reducible repeat (first | refine kDN ?_ _ | refine kDr ?_ | refine kAl ?_ _)); refine blk_put (cs := #[.string (⟨#[]⟩ : ByteArray), .int .i64 0, .int .i64 0]) ?_ 0 _ rfl; (with_reducible repeat (first | refine kDN ?_ _ | refine kDr ?_ | refine kAl ?_ _)); exact BK118.out⟩
  have n2_ : Aside0 (Below w.heap.size w (((w52.setCell ⟨gb118, 0, none⟩ (.string a1)).setCell ⟨gb118, 1, none⟩ (.int .i64 a2)).setCell ⟨gb118, 2, none⟩ (.int .i64 a3))) := ⟨by repeat (first | (with_reducible first | exact HB.out | apply bAl | apply pbD | apply bD1 | refine bSt ?_ GE117.out | refine bSt ?_ GE118.out) | exact HB.out)⟩
  (try clear BK117)
  (try clear BK118)
  (try clear HB)
  repeat rw [setCell_drewN]
  generalize (((w52.setCell ⟨gb118, 0, none⟩ (.string a1)).setCell ⟨gb118, 1, none⟩ (.int .i64 a2)).setCell ⟨gb118, 2, none⟩ (.int .i64 a3)) = w56 at n0_ n1_ n2_ ⊢
  have BK117 := n0_
  have BK118 := n1_
  have HB := n2_
  clear n0_ n1_ n2_
  have n0_ := aK (kDr BK117.out)
  have n1_ := aK (kDr BK118.out)
  have n2_ := aK (bD1 HB.out)
  clear BK117
  clear BK118
  clear HB
  have BK117 := n0_
  have BK118 := n1_
  have HB := n2_
  clear n0_ n1_ n2_
  refine start_ (n := 31) (S := fun w' => w'.cell? ⟨gb118, 0, none⟩ = some (.string a1) ∧ w'.cell? ⟨gb118, 1, none⟩ = some (.int .i64 a2) ∧ w'.cell? ⟨gb118, 2, none⟩ = some (.int .i64 a3)) (ds := []) (bl 31 0) (by kernel_rfl) rfl (by kernel_rfl) ⟨(kCe BK118.out 0).trans rfl, (kCe BK118.out 1).trans rfl, (kCe BK118.out 2).trans rfl⟩ (fun hHeld => ?_); refine with_tabW part_Eligible.tab3 part_Eligible.bits3 (fun HT_ HW_ => ?_)
  generalize w56.drew = w57 at BK117 BK118 HB hHeld ⊢
  refine tV 0 18 (bl 31 1) HT_.out HW_.out hHeld ?_ (hv := by rintro w' ⟨s0, s1, s2⟩; go_simp; with_reducible rfl)
  refine one_ (i := 1) (N := some 19) (bl 31 3) rfl rfl (one_of HT_.out (by kernel_rfl)) (by decide) (fun K hK => ?_)
  refine goes_ Try.func52 (by kernel_rfl) rfl #[.agg #[.string a1, .int .i64 a2, .int .i64 a3]] (by rfl) rfl rfl (by (try simp only [qM0, qM1, qM2]); first | done | rfl | (simp only [qD0, qD1]; rfl)) ?_
  with_reducible refine (part_spot_is.calls a1 a2 a3 false _ A5.out).mono ?_
  rintro e w58 ⟨rfl, hb⟩
  refine ⟨_, rfl, ?_⟩
  have n0_ := aK (kBe (g := gb117) (o := .cells #[.int .i64 a0_0, .string a0_1, .string a0_2, .int .i64 a0_3, .int .i64 a0_4] 33 (0, 0)) (by (with_reducible repeat (first | refine kDN ?_ _ | refine kDr ?_ | refine kAl ?_ _)); exact BK117.out) hb)
  have n1_ := aK (kBe (g := gb118) (o := .cells #[.string a1, .int .i64 a2, .int .i64 a3] 84 (0, 0)) (by (with_reducible repeat (first | refine kDN ?_ _ | refine kDr ?_ | refine kAl ?_ _)); exact BK118.out) hb)
  have n2_ := aK (bSp (by repeat (first | (with_reducible first | exact HB.out | apply bAl | apply pbD | apply bD1 | refine bSt ?_ GE117.out | refine bSt ?_ GE118.out) | exact HB.out)) hb)
  clear BK117
  clear BK118
  clear HB
  have BK117 := n0_
  have BK118 := n1_
  have HB := n2_
  clear n0_ n1_ n2_
  (try clear hb)
  (try clear hb2)
  (try clear hk)
  (try clear hi)
  refine hK.out _ _ ⟨(kCe BK118.out 0).trans rfl, (kCe BK118.out 1).trans rfl, (kCe BK118.out 2).trans rfl⟩ (fun hHeld => ?_)
  clear hK K
  refine norm_ (a' := ?_) ?_ ?_
  rotate_left
  ·
   show Act.put _ (some 19) _ = _
   simp only [Act.put, qSa, qS0, qS1, i64_w, i32_w]
   rfl
  refine pV 2 20 (bl 31 7) HT_.out ?_
  refine pU 3 21 (bl 31 15) HT_.out ?_
  refine pU 4 22 (bl 31 31) HT_.out ?_
  refine pV 5 23 (bl 31 63) HT_.out ?_
  refine pV 6 24 (bl 31 127) HT_.out ?_
  refine pU 7 25 (bl 31 255) HT_.out ?_
  refine pU 8 26 (bl 31 511) HT_.out ?_
  refine pU 9 27 (bl 31 1023) HT_.out ?_
  refine pU 10 28 (bl 31 2047) HT_.out ?_
  refine pV 11 29 (bl 31 4095) HT_.out ?_
  refine pV 12 30 (bl 31 8191) HT_.out ?_
  refine pU 13 31 (bl 31 16383) HT_.out ?_
  refine pU 14 32 (bl 31 32767) HT_.out ?_
  refine pU 15 33 (bl 31 65535) HT_.out ?_
  refine pU 16 34 (bl 31 131071) HT_.out ?_
  refine pU 17 35 (bl 31 262143) HT_.out ?_
  refine pU 18 36 (bl 31 524287) HT_.out ?_
  refine pU 19 37 (bl 31 1048575) HT_.out ?_
  refine pU 20 38 (bl 31 2097151) HT_.out ?_
  refine pU 21 39 (bl 31 4194303) HT_.out ?_
  refine pV 22 40 (bl 31 8388607) HT_.out ?_
  refine pV 23 41 (bl 31 16777215) HT_.out ?_
  refine pU 24 42 (bl 31 33554431) HT_.out ?_
  refine pU 25 43 (bl 31 67108863) HT_.out ?_
  refine pU 26 44 (bl 31 134217727) HT_.out ?_
  refine pU 27 45 (bl 31 268435455) HT_.out ?_
  refine pU 28 46 (bl 31 536870911) HT_.out ?_
  refine pV 29 47 (bl 31 1073741823) HT_.out ?_
  refine pV 30 8 (bl 31 2147483647) HT_.out ?_
  refine done_ (done_of HT_.out (by kernel_rfl)) ?_
  try go_wp2
  go_ret
  exact ⟨by first | rfl | (simp [eWn, eWs] <;> rfl) | (simp [*, eWn, eWs] <;> rfl), by repeat (first | (with_reducible first | exact HB.out | apply bAl | apply pbD | apply bD1 | refine bSt ?_ GE117.out | refine bSt ?_ GE118.out) | exact HB.out)⟩
 subst c6
 have H1 : (if (a0_1.size : Int) > 0 then ((part_spot_left.f a1 a2 a3).bind fun t120 => (if (a0_1.size : Int) ≤ t120 then (if 0 ≤ a2 then (if a2 ≤ (wrap64 (a2 + (a0_1.size : Int))) then (if (wrap64 (a2 + (a0_1.size : Int))) ≤ (a1.size : Int) then (if (a1.extract (a2 : Int).toNat ((wrap64 (a2 + (a0_1.size : Int))) : Int).toNat).toList = a0_1.toList then ((part_spot_may.f a1 a2 a3 a0_0 (a0_1.size : Int)).bind fun t121 => (some t121)) else (some false)) else (none)) else (none)) else (none)) else (some false))) else (some false)) = some r := by rw [if_pos rfl] at H; exact H
 clear H
 have H := H1
 clear H1
 by_cases c7 : (a0_1.size : Int) > 0
 rotate_left
 ·
  rw [if_neg c7] at H
  have c7b0 : decide (0 < (a0_1.size : Int)) = false := decide_eq_false c7
  have c7b1 : decide (0 < a0_1.size) = false := decide_eq_false (by omega)
  clear c7
  obtain rfl := oI H
  go_enter Try.func31, Try.ntmps31
  try go_wp2_with (first | ((with_reducible refine gate_dst (N := 4) rfl ?_); refine box_event ?hg (N := 4) ?hd (cs := #[.int .i64 a0_0, .string a0_1, .string a0_2, .int .i64 a0_3, .int .i64 a0_4]) (t := 33) ?hr ?_; (case hd => rfl); (case hg => rfl); (case hr => first | (go_simp; done) | (go_simp; rfl)); intro gb117 hg w43 hbox hb; have n0_ := aK (bSp (by repeat (first | (with_reducible first | exact HB.out | apply bAl | apply pbD | apply bD1) | exact HB.out)) hb); have n1_ := aK (hbox); have n2_ := aK ((by rw [hg]; exact (bSz (by repeat (first | (with_reducible first | exact HB.out | apply bAl | apply pbD | apply bD1) | exact HB.out))) : w.heap.size ≤ gb117)); have n3_ := aK ((by rw [hg]; exact (bSz (by repeat (first | (with_reducible first | exact HB.out | apply bAl | apply pbD | apply bD1) | exact HB.out))) : w.heap.size ≤ gb117)); clear HB; have HB := n0_; have BK117 := n1_; have GW117 := n2_; have GE117 := n3_; clear n0_ n1_ n2_ n3_; clear hb hbox hg) | ((with_reducible refine gate_dst (N := 9) rfl ?_); refine box_event ?hg (N := 9) ?hd (cs := #[.string (⟨#[]⟩ : ByteArray), .int .i64 0, .int .i64 0]) (t := 84) ?hr ?_; (case hd => rfl); (case hg => rfl); (case hr => first | (go_simp; done) | (go_simp; rfl)); intro gb118 hg w44 hbox hb; have n0_ := aK (kBe (g := gb117) (o := .cells #[.int .i64 a0_0, .string a0_1, .string a0_2, .int .i64 a0_3, .int .i64 a0_4] 33 (0, 0)) (by (with_reducible repeat (first | refine kDN ?_ _ | refine kDr ?_ | refine kAl ?_ _)); exact BK117.out) hb); have n1_ := aK (bSp (by repeat (first | (with_reducible first | exact HB.out | apply bAl | apply pbD | apply bD1 | refine bSt ?_ GE117.out) | exact HB.out)) hb); have n2_ := aK (hbox); have n3_ := aK ((by rw [hg]; exact (bSz (by repeat (first | (with_reducible first | exact HB.out | apply bAl | apply pbD | apply bD1 | refine bSt ?_ GE117.out) | exact HB.out))) : w.heap.size ≤ gb118)); have n4_ := aK ((by rw [hg]; exact (bSz (by repeat (first | (with_reducible first | exact HB.out | apply bAl | apply pbD | apply bD1 | refine bSt ?_ GE117.out) | exact HB.out))) : w.heap.size ≤ gb118)); have n5_ := aK ((by rw [hg]; exact Nat.ne_of_lt (blk_lt (g := gb117) (o := .cells #[.int .i64 a0_0, .string a0_1, .string a0_2, .int .i64 a0_3, .int .i64 a0_4] 33 (0, 0)) (by (with_reducible repeat (first | refine kDN ?_ _ | refine kDr ?_ | refine kAl ?_ _)); exact BK117.out)) : gb117 ≠ gb118)); have n6_ := aK ((by rw [hg]; exact Nat.ne_of_gt (blk_lt (g := gb117) (o := .cells #[.int .i64 a0_0, .string a0_1, .string a0_2, .int .i64 a0_3, .int .i64 a0_4] 33 (0, 0)) (by (with_reducible repeat (first | refine kDN ?_ _ | refine kDr ?_ | refine kAl ?_ _)); exact BK117.out)) : gb118 ≠ gb117)); clear BK117; clear HB; have BK117 := n0_; have HB := n1_; have BK118 := n2_; have GW118 := n3_; have GE118 := n4_; have NB117_118 := n5_; have NB118_117 := n6_; clear n0_ n1_ n2_ n3_ n4_ n5_ n6_; clear hb hbox hg; have hnb45 := NB118_117.out; have hnc45 := NB117_118.out; have hcz46_0 : w44.cell? ⟨gb118, 0, none⟩ = some (.string (⟨#[]⟩ : ByteArray)) := (kCe BK118.out 0).trans rfl; have hcz46_1 : w44.cell? ⟨gb118, 1, none⟩ = some (.int .i64 0) := (kCe BK118.out 1).trans rfl; have hcz46_2 : w44.cell? ⟨gb118, 2, none⟩ = some (.int .i64 0) := (kCe BK118.out 2).trans rfl; have hfz46_0 := bFz BK118.out 0; have hfz46_1 := bFz BK118.out 1; have hfz46_2 := bFz BK118.out 2; have hcz47_0 : w44.cell? ⟨gb117, 0, none⟩ = some (.int .i64 a0_0) := (kCe BK117.out 0).trans rfl; have hcz47_1 : w44.cell? ⟨gb117, 1, none⟩ = some (.string a0_1) := (kCe BK117.out 1).trans rfl; have hcz47_2 : w44.cell? ⟨gb117, 2, none⟩ = some (.string a0_2) := (kCe BK117.out 2).trans rfl; have hcz47_3 : w44.cell? ⟨gb117, 3, none⟩ = some (.int .i64 a0_3) := (kCe BK117.out 3).trans rfl; have hcz47_4 : w44.cell? ⟨gb117, 4, none⟩ = some (.int .i64 a0_4) := (kCe BK117.out 4).trans rfl; have hfz47_0 := bFz BK117.out 0; have hfz47_1 := bFz BK117.out 1; have hfz47_2 := bFz BK117.out 2; have hfz47_3 := bFz BK117.out 3; have hfz47_4 := bFz BK117.out 4))
  have n0_ : Aside0 ((((w44.setCell ⟨gb118, 0, none⟩ (.string a1)).setCell ⟨gb118, 1, none⟩ (.int .i64 a2)).setCell ⟨gb118, 2, none⟩ (.int .i64 a3)).heap[gb117]? = some (.cells #[.int .i64 a0_0, .string a0_1, .string a0_2, .int .i64 a0_3, .int .i64 a0_4] 33 (0, 0))) := ⟨by (with_reducible repeat (first | refine kDN ?_ _ | refine kDr ?_ | refine kAl ?_ _)); refine blk_far ?_ NB117_118.out _; (with_reducible repeat (first | refine kDN ?_ _ | refine kDr ?_ | refine kAl ?_ _)); refine blk_far ?_ NB117_118.out _; (with_reducible repeat (first | refine kDN ?_ _ | refine kDr ?_ | refine kAl ?_ _)); refine blk_far ?_ NB117_118.out _; (with_reducible repeat (first | refine kDN ?_ _ | refine kDr ?_ | refine kAl ?_ _)); exact BK117.out⟩
  have n1_ : Aside0 ((((w44.setCell ⟨gb118, 0, none⟩ (.string a1)).setCell ⟨gb118, 1, none⟩ (.int .i64 a2)).setCell ⟨gb118, 2, none⟩ (.int .i64 a3)).heap[gb118]? = some (.cells #[.string a1, .int .i64 a2, .int .i64 a3] 84 (0, 0))) := ⟨by (with_reducible repeat (first | refine kDN ?_ _ | refine kDr ?_ | refine kAl ?_ _)); refine blk_put (cs := #[.string a1, .int .i64 a2, .int .i64 0]) ?_ 2 _ rfl; (with_reducible repeat (first | refine kDN ?_ _ | refine kDr ?_ | refine kAl ?_ _)); refine blk_put (cs := #[.string a1, .int .i64 0, .int .i64 0]) ?_ 1 _ rfl; (with_reducible repeat (first | refine kDN ?_ _ | refine kDr ?_ | refine kAl ?_ _)); refine blk_put (cs := #[.string (⟨#[]⟩ : ByteArray), .int .i64 0, .int .i64 0]) ?_ 0 _ rfl; (with_reducible repeat (first | refine kDN ?_ _ | refine kDr ?_ | refine kAl ?_ _)); exact BK118.out⟩
  have n2_ : Aside0 (Below w.heap.size w (((w44.setCell ⟨gb118, 0, none⟩ (.string a1)).setCell ⟨gb118, 1, none⟩ (.int .i64 a2)).setCell ⟨gb118, 2, none⟩ (.int .i64 a3))) := ⟨by repeat (first | (with_reducible first | exact HB.out | apply bAl | apply pbD | apply bD1 | refine bSt ?_ GE117.out | refine bSt ?_ GE118.out) | exact HB.out)⟩
  (try clear BK117)
  (try clear BK118)
  (try clear HB)
  repeat rw [setCell_drewN]
  generalize (((w44.setCell ⟨gb118, 0, none⟩ (.string a1)).setCell ⟨gb118, 1, none⟩ (.int .i64 a2)).setCell ⟨gb118, 2, none⟩ (.int .i64 a3)) = w48 at n0_ n1_ n2_ ⊢
  have BK117 := n0_
  have BK118 := n1_
  have HB := n2_
  clear n0_ n1_ n2_
  have n0_ := aK (kDr BK117.out)
  have n1_ := aK (kDr BK118.out)
  have n2_ := aK (bD1 HB.out)
  clear BK117
  clear BK118
  clear HB
  have BK117 := n0_
  have BK118 := n1_
  have HB := n2_
  clear n0_ n1_ n2_
  refine start_ (n := 31) (S := fun w' => w'.cell? ⟨gb118, 0, none⟩ = some (.string a1) ∧ w'.cell? ⟨gb118, 1, none⟩ = some (.int .i64 a2) ∧ w'.cell? ⟨gb118, 2, none⟩ = some (.int .i64 a3)) (ds := []) (bl 31 0) (by kernel_rfl) rfl (by kernel_rfl) ⟨(kCe BK118.out 0).trans rfl, (kCe BK118.out 1).trans rfl, (kCe BK118.out 2).trans rfl⟩ (fun hHeld => ?_); refine with_tabW part_Eligible.tab3 part_Eligible.bits3 (fun HT_ HW_ => ?_)
  generalize w48.drew = w49 at BK117 BK118 HB hHeld ⊢
  refine tV 0 18 (bl 31 1) HT_.out HW_.out hHeld ?_ (hv := by rintro w' ⟨s0, s1, s2⟩; go_simp; with_reducible rfl)
  refine one_ (i := 1) (N := some 19) (bl 31 3) rfl rfl (one_of HT_.out (by kernel_rfl)) (by decide) (fun K hK => ?_)
  refine goes_ Try.func52 (by kernel_rfl) rfl #[.agg #[.string a1, .int .i64 a2, .int .i64 a3]] (by rfl) rfl rfl (by (try simp only [qM0, qM1, qM2]); first | done | rfl | (simp only [qD0, qD1]; rfl)) ?_
  with_reducible refine (part_spot_is.calls a1 a2 a3 true _ A5.out).mono ?_
  rintro e w50 ⟨rfl, hb⟩
  refine ⟨_, rfl, ?_⟩
  have n0_ := aK (kBe (g := gb117) (o := .cells #[.int .i64 a0_0, .string a0_1, .string a0_2, .int .i64 a0_3, .int .i64 a0_4] 33 (0, 0)) (by (with_reducible repeat (first | refine kDN ?_ _ | refine kDr ?_ | refine kAl ?_ _)); exact BK117.out) hb)
  have n1_ := aK (kBe (g := gb118) (o := .cells #[.string a1, .int .i64 a2, .int .i64 a3] 84 (0, 0)) (by (with_reducible repeat (first | refine kDN ?_ _ | refine kDr ?_ | refine kAl ?_ _)); exact BK118.out) hb)
  have n2_ := aK (bSp (by repeat (first | (with_reducible first | exact HB.out | apply bAl | apply pbD | apply bD1 | refine bSt ?_ GE117.out | refine bSt ?_ GE118.out) | exact HB.out)) hb)
  clear BK117
  clear BK118
  clear HB
  have BK117 := n0_
  have BK118 := n1_
  have HB := n2_
  clear n0_ n1_ n2_
  (try clear hb)
  (try clear hb2)
  (try clear hk)
  (try clear hi)
  refine hK.out _ _ ⟨(kCe BK118.out 0).trans rfl, (kCe BK118.out 1).trans rfl, (kCe BK118.out 2).trans rfl⟩ (fun hHeld => ?_)
  clear hK K
  refine norm_ (a' := ?_) ?_ ?_
  rotate_left
  ·
   show Act.put _ (some 19) _ = _
   simp only [Act.put, qSa, qS0, qS1, i64_w, i32_w]
   rfl
  refine pV 2 20 (bl 31 7) HT_.out ?_
  refine pV 3 21 (bl 31 15) HT_.out ?_
  refine pV 4 22 (bl 31 31) HT_.out ?_
  refine pV 5 23 (bl 31 63) HT_.out ?_
  refine pV 6 24 (bl 31 127) HT_.out ?_
  refine pU 7 25 (bl 31 255) HT_.out ?_
  refine pU 8 26 (bl 31 511) HT_.out ?_
  refine pU 9 27 (bl 31 1023) HT_.out ?_
  refine pU 10 28 (bl 31 2047) HT_.out ?_
  refine pV 11 29 (bl 31 4095) HT_.out ?_
  refine pV 12 30 (bl 31 8191) HT_.out ?_
  refine pU 13 31 (bl 31 16383) HT_.out ?_
  refine pU 14 32 (bl 31 32767) HT_.out ?_
  refine pU 15 33 (bl 31 65535) HT_.out ?_
  refine pU 16 34 (bl 31 131071) HT_.out ?_
  refine pU 17 35 (bl 31 262143) HT_.out ?_
  refine pU 18 36 (bl 31 524287) HT_.out ?_
  refine pU 19 37 (bl 31 1048575) HT_.out ?_
  refine pU 20 38 (bl 31 2097151) HT_.out ?_
  refine pU 21 39 (bl 31 4194303) HT_.out ?_
  refine pV 22 40 (bl 31 8388607) HT_.out ?_
  refine pV 23 41 (bl 31 16777215) HT_.out ?_
  refine pU 24 42 (bl 31 33554431) HT_.out ?_
  refine pU 25 43 (bl 31 67108863) HT_.out ?_
  refine pU 26 44 (bl 31 134217727) HT_.out ?_
  refine pU 27 45 (bl 31 268435455) HT_.out ?_
  refine pU 28 46 (bl 31 536870911) HT_.out ?_
  refine pV 29 47 (bl 31 1073741823) HT_.out ?_
  refine pV 30 8 (bl 31 2147483647) HT_.out ?_
  refine done_ (done_of HT_.out (by kernel_rfl)) ?_
  try go_wp2
  go_ret
  exact ⟨by first | rfl | (simp [eWn, eWs] <;> rfl) | (simp [*, eWn, eWs] <;> rfl), by repeat (first | (with_reducible first | exact HB.out | apply bAl | apply pbD | apply bD1 | refine bSt ?_ GE117.out | refine bSt ?_ GE118.out) | exact HB.out)⟩
 rw [if_pos c7] at H
 have c7b0 : decide (0 < (a0_1.size : Int)) = true := decide_eq_true c7
 have c7b1 : decide (0 < a0_1.size) = true := decide_eq_true (by omega)
 clear c7
 replace H := oB H
 obtain ⟨t120, A80, H⟩ := H
 try dsimp only at H
 have A8 := aK A80
 clear A80
 by_cases c9 : (a0_1.size : Int) ≤ t120
 rotate_left
 ·
  rw [if_neg c9] at H
  have c9b0 : decide ((a0_1.size : Int) ≤ t120) = false := decide_eq_false c9
  clear c9
  obtain rfl := oI H
  go_enter Try.func31, Try.ntmps31
  try go_wp2_with (first | ((with_reducible refine gate_dst (N := 4) rfl ?_); refine box_event ?hg (N := 4) ?hd (cs := #[.int .i64 a0_0, .string a0_1, .string a0_2, .int .i64 a0_3, .int .i64 a0_4]) (t := 33) ?hr ?_; (case hd => rfl); (case hg => rfl); (case hr => first | (go_simp; done) | (go_simp; rfl)); intro gb117 hg w34 hbox hb; have n0_ := aK (bSp (by repeat (first | (with_reducible first | exact HB.out | apply bAl | apply pbD | apply bD1) | exact HB.out)) hb); have n1_ := aK (hbox); have n2_ := aK ((by rw [hg]; exact (bSz (by repeat (first | (with_reducible first | exact HB.out | apply bAl | apply pbD | apply bD1) | exact HB.out))) : w.heap.size ≤ gb117)); have n3_ := aK ((by rw [hg]; exact (bSz (by repeat (first | (with_reducible first | exact HB.out | apply bAl | apply pbD | apply bD1) | exact HB.out))) : w.heap.size ≤ gb117)); clear HB; have HB := n0_; have BK117 := n1_; have GW117 := n2_; have GE117 := n3_; clear n0_ n1_ n2_ n3_; clear hb hbox hg) | ((with_reducible refine gate_dst (N := 9) rfl ?_); refine box_event ?hg (N := 9) ?hd (cs := #[.string (⟨#[]⟩ : ByteArray), .int .i64 0, .int .i64 0]) (t := 84) ?hr ?_; (case hd => rfl); (case hg => rfl); (case hr => first | (go_simp; done) | (go_simp; rfl)); intro gb118 hg w35 hbox hb; have n0_ := aK (kBe (g := gb117) (o := .cells #[.int .i64 a0_0, .string a0_1, .string a0_2, .int .i64 a0_3, .int .i64 a0_4] 33 (0, 0)) (by (with_reducible repeat (first | refine kDN ?_ _ | refine kDr ?_ | refine kAl ?_ _)); exact BK117.out) hb); have n1_ := aK (bSp (by repeat (first | (with_reducible first | exact HB.out | apply bAl | apply pbD | apply bD1 | refine bSt ?_ GE117.out) | exact HB.out)) hb); have n2_ := aK (hbox); have n3_ := aK ((by rw [hg]; exact (bSz (by repeat (first | (with_reducible first | exact HB.out | apply bAl | apply pbD | apply bD1 | refine bSt ?_ GE117.out) | exact HB.out))) : w.heap.size ≤ gb118)); have n4_ := aK ((by rw [hg]; exact (bSz (by repeat (first | (with_reducible first | exact HB.out | apply bAl | apply pbD | apply bD1 | refine bSt ?_ GE117.out) | exact HB.out))) : w.heap.size ≤ gb118)); have n5_ := aK ((by rw [hg]; exact Nat.ne_of_lt (blk_lt (g := gb117) (o := .cells #[.int .i64 a0_0, .string a0_1, .string a0_2, .int .i64 a0_3, .int .i64 a0_4] 33 (0, 0)) (by (with_reducible repeat (first | refine kDN ?_ _ | refine kDr ?_ | refine kAl ?_ _)); exact BK117.out)) : gb117 ≠ gb118)); have n6_ := aK ((by rw [hg]; exact Nat.ne_of_gt (blk_lt (g := gb117) (o := .cells #[.int .i64 a0_0, .string a0_1, .string a0_2, .int .i64 a0_3, .int .i64 a0_4] 33 (0, 0)) (by (with_reducible repeat (first | refine kDN ?_ _ | refine kDr ?_ | refine kAl ?_ _)); exact BK117.out)) : gb118 ≠ gb117)); clear BK117; clear HB; have BK117 := n0_; have HB := n1_; have BK118 := n2_; have GW118 := n3_; have GE118 := n4_; have NB117_118 := n5_; have NB118_117 := n6_; clear n0_ n1_ n2_ n3_ n4_ n5_ n6_; clear hb hbox hg; have hnb36 := NB118_117.out; have hnc36 := NB117_118.out; have hcz37_0 : w35.cell? ⟨gb118, 0, none⟩ = some (.string (⟨#[]⟩ : ByteArray)) := (kCe BK118.out 0).trans rfl; have hcz37_1 : w35.cell? ⟨gb118, 1, none⟩ = some (.int .i64 0) := (kCe BK118.out 1).trans rfl; have hcz37_2 : w35.cell? ⟨gb118, 2, none⟩ = some (.int .i64 0) := (kCe BK118.out 2).trans rfl; have hfz37_0 := bFz BK118.out 0; have hfz37_1 := bFz BK118.out 1; have hfz37_2 := bFz BK118.out 2; have hcz38_0 : w35.cell? ⟨gb117, 0, none⟩ = some (.int .i64 a0_0) := (kCe BK117.out 0).trans rfl; have hcz38_1 : w35.cell? ⟨gb117, 1, none⟩ = some (.string a0_1) := (kCe BK117.out 1).trans rfl; have hcz38_2 : w35.cell? ⟨gb117, 2, none⟩ = some (.string a0_2) := (kCe BK117.out 2).trans rfl; have hcz38_3 : w35.cell? ⟨gb117, 3, none⟩ = some (.int .i64 a0_3) := (kCe BK117.out 3).trans rfl; have hcz38_4 : w35.cell? ⟨gb117, 4, none⟩ = some (.int .i64 a0_4) := (kCe BK117.out 4).trans rfl; have hfz38_0 := bFz BK117.out 0; have hfz38_1 := bFz BK117.out 1; have hfz38_2 := bFz BK117.out 2; have hfz38_3 := bFz BK117.out 3; have hfz38_4 := bFz BK117.out 4))
  have n0_ : Aside0 ((((w35.setCell ⟨gb118, 0, none⟩ (.string a1)).setCell ⟨gb118, 1, none⟩ (.int .i64 a2)).setCell ⟨gb118, 2, none⟩ (.int .i64 a3)).heap[gb117]? = some (.cells #[.int .i64 a0_0, .string a0_1, .string a0_2, .int .i64 a0_3, .int .i64 a0_4] 33 (0, 0))) := ⟨by (with_reducible repeat (first | refine kDN ?_ _ | refine kDr ?_ | refine kAl ?_ _)); refine blk_far ?_ NB117_118.out _; (with_reducible repeat (first | refine kDN ?_ _ | refine kDr ?_ | refine kAl ?_ _)); refine blk_far ?_ NB117_118.out _; (with_reducible repeat (first | refine kDN ?_ _ | refine kDr ?_ | refine kAl ?_ _)); refine blk_far ?_ NB117_118.out _; (with_reducible repeat (first | refine kDN ?_ _ | refine kDr ?_ | refine kAl ?_ _)); exact BK117.out⟩
  have n1_ : Aside0 ((((w35.setCell ⟨gb118, 0, none⟩ (.string a1)).setCell ⟨gb118, 1, none⟩ (.int .i64 a2)).setCell ⟨gb118, 2, none⟩ (.int .i64 a3)).heap[gb118]? = some (.cells #[.string a1, .int .i64 a2, .int .i64 a3] 84 (0, 0))) := ⟨by (with_reducible repeat (first | refine kDN ?_ _ | refine kDr ?_ | refine kAl ?_ _)); refine blk_put (cs := #[.string a1, .int .i64 a2, .int .i64 0]) ?_ 2 _ rfl; (with_reducible repeat (first | refine kDN ?_ _ | refine kDr ?_ | refine kAl ?_ _)); refine blk_put (cs := #[.string a1, .int .i64 0, .int .i64 0]) ?_ 1 _ rfl; (with_reducible repeat (first | refine kDN ?_ _ | refine kDr ?_ | refine kAl ?_ _)); refine blk_put (cs := #[.string (⟨#[]⟩ : ByteArray), .int .i64 0, .int .i64 0]) ?_ 0 _ rfl; (with_reducible repeat (first | refine kDN ?_ _ | refine kDr ?_ | refine kAl ?_ _)); exact BK118.out⟩
  have n2_ : Aside0 (Below w.heap.size w (((w35.setCell ⟨gb118, 0, none⟩ (.string a1)).setCell ⟨gb118, 1, none⟩ (.int .i64 a2)).setCell ⟨gb118, 2, none⟩ (.int .i64 a3))) := ⟨by repeat (first | (with_reducible first | exact HB.out | apply bAl | apply pbD | apply bD1 | refine bSt ?_ GE117.out | refine bSt ?_ GE118.out) | exact HB.out)⟩
  (try clear BK117)
  (try clear BK118)
  (try clear HB)
  repeat rw [setCell_drewN]
  generalize (((w35.setCell ⟨gb118, 0, none⟩ (.string a1)).setCell ⟨gb118, 1, none⟩ (.int .i64 a2)).setCell ⟨gb118, 2, none⟩ (.int .i64 a3)) = w39 at n0_ n1_ n2_ ⊢
  have BK117 := n0_
  have BK118 := n1_
  have HB := n2_
  clear n0_ n1_ n2_
  have n0_ := aK (kDr BK117.out)
  have n1_ := aK (kDr BK118.out)
  have n2_ := aK (bD1 HB.out)
  clear BK117
  clear BK118
  clear HB
  have BK117 := n0_
  have BK118 := n1_
  have HB := n2_
  clear n0_ n1_ n2_
  refine start_ (n := 31) (S := fun w' => w'.cell? ⟨gb118, 0, none⟩ = some (.string a1) ∧ w'.cell? ⟨gb118, 1, none⟩ = some (.int .i64 a2) ∧ w'.cell? ⟨gb118, 2, none⟩ = some (.int .i64 a3)) (ds := []) (bl 31 0) (by kernel_rfl) rfl (by kernel_rfl) ⟨(kCe BK118.out 0).trans rfl, (kCe BK118.out 1).trans rfl, (kCe BK118.out 2).trans rfl⟩ (fun hHeld => ?_); refine with_tabW part_Eligible.tab3 part_Eligible.bits3 (fun HT_ HW_ => ?_)
  generalize w39.drew = w40 at BK117 BK118 HB hHeld ⊢
  refine tV 0 18 (bl 31 1) HT_.out HW_.out hHeld ?_ (hv := by rintro w' ⟨s0, s1, s2⟩; go_simp; with_reducible rfl)
  refine one_ (i := 1) (N := some 19) (bl 31 3) rfl rfl (one_of HT_.out (by kernel_rfl)) (by decide) (fun K hK => ?_)
  refine goes_ Try.func52 (by kernel_rfl) rfl #[.agg #[.string a1, .int .i64 a2, .int .i64 a3]] (by rfl) rfl rfl (by (try simp only [qM0, qM1, qM2]); first | done | rfl | (simp only [qD0, qD1]; rfl)) ?_
  with_reducible refine (part_spot_is.calls a1 a2 a3 true _ A5.out).mono ?_
  rintro e w41 ⟨rfl, hb⟩
  refine ⟨_, rfl, ?_⟩
  have n0_ := aK (kBe (g := gb117) (o := .cells #[.int .i64 a0_0, .string a0_1, .string a0_2, .int .i64 a0_3, .int .i64 a0_4] 33 (0, 0)) (by (with_reducible repeat (first | refine kDN ?_ _ | refine kDr ?_ | refine kAl ?_ _)); exact BK117.out) hb)
  have n1_ := aK (kBe (g := gb118) (o := .cells #[.string a1, .int .i64 a2, .int .i64 a3] 84 (0, 0)) (by (with_reducible repeat (first | refine kDN ?_ _ | refine kDr ?_ | refine kAl ?_ _)); exact BK118.out) hb)
  have n2_ := aK (bSp (by repeat (first | (with_reducible first | exact HB.out | apply bAl | apply pbD | apply bD1 | refine bSt ?_ GE117.out | refine bSt ?_ GE118.out) | exact HB.out)) hb)
  clear BK117
  clear BK118
  clear HB
  have BK117 := n0_
  have BK118 := n1_
  have HB := n2_
  clear n0_ n1_ n2_
  (try clear hb)
  (try clear hb2)
  (try clear hk)
  (try clear hi)
  refine hK.out _ _ ⟨(kCe BK118.out 0).trans rfl, (kCe BK118.out 1).trans rfl, (kCe BK118.out 2).trans rfl⟩ (fun hHeld => ?_)
  clear hK K
  refine norm_ (a' := ?_) ?_ ?_
  rotate_left
  ·
   show Act.put _ (some 19) _ = _
   simp only [Act.put, qSa, qS0, qS1, i64_w, i32_w]
   rfl
  refine pV 2 20 (bl 31 7) HT_.out ?_
  refine pV 3 21 (bl 31 15) HT_.out ?_
  refine pV 4 22 (bl 31 31) HT_.out ?_
  refine pV 5 23 (bl 31 63) HT_.out ?_
  refine pV 6 24 (bl 31 127) HT_.out ?_
  refine pV 7 25 (bl 31 255) HT_.out ?_
  refine tV 8 26 (bl 31 511) HT_.out HW_.out hHeld ?_ (hv := by rintro w' ⟨s0, s1, s2⟩; go_simp; with_reducible rfl)
  refine one_ (i := 9) (N := some 27) (bl 31 1023) rfl rfl (one_of HT_.out (by kernel_rfl)) (by decide) (fun K hK => ?_)
  refine goes_ Try.func56 (by kernel_rfl) rfl #[.agg #[.string a1, .int .i64 a2, .int .i64 a3]] (by rfl) rfl rfl (by (try simp only [qM0, qM1, qM2]); first | done | rfl | (simp only [qD0, qD1]; rfl)) ?_
  with_reducible refine (part_spot_left.calls a1 a2 a3 t120 _ A8.out).mono ?_
  rintro e w42 ⟨rfl, hb⟩
  refine ⟨_, rfl, ?_⟩
  have n0_ := aK (kBe (g := gb117) (o := .cells #[.int .i64 a0_0, .string a0_1, .string a0_2, .int .i64 a0_3, .int .i64 a0_4] 33 (0, 0)) (by (with_reducible repeat (first | refine kDN ?_ _ | refine kDr ?_ | refine kAl ?_ _)); exact BK117.out) hb)
  have n1_ := aK (kBe (g := gb118) (o := .cells #[.string a1, .int .i64 a2, .int .i64 a3] 84 (0, 0)) (by (with_reducible repeat (first | refine kDN ?_ _ | refine kDr ?_ | refine kAl ?_ _)); exact BK118.out) hb)
  have n2_ := aK (bSp (by repeat (first | (with_reducible first | exact HB.out | apply bAl | apply pbD | apply bD1 | refine bSt ?_ GE117.out | refine bSt ?_ GE118.out) | exact HB.out)) hb)
  clear BK117
  clear BK118
  clear HB
  have BK117 := n0_
  have BK118 := n1_
  have HB := n2_
  clear n0_ n1_ n2_
  (try clear hb)
  (try clear hb2)
  (try clear hk)
  (try clear hi)
  refine hK.out _ _ ⟨(kCe BK118.out 0).trans rfl, (kCe BK118.out 1).trans rfl, (kCe BK118.out 2).trans rfl⟩ (fun hHeld => ?_)
  clear hK K
  refine norm_ (a' := ?_) ?_ ?_
  rotate_left
  ·
   show Act.put _ (some 27) _ = _
   simp only [Act.put, qSa, qS0, qS1, i64_w, i32_w]
   rfl
  refine pV 10 28 (bl 31 2047) HT_.out ?_
  refine pV 11 29 (bl 31 4095) HT_.out ?_
  refine pV 12 30 (bl 31 8191) HT_.out ?_
  refine pU 13 31 (bl 31 16383) HT_.out ?_
  refine pU 14 32 (bl 31 32767) HT_.out ?_
  refine pU 15 33 (bl 31 65535) HT_.out ?_
  refine pU 16 34 (bl 31 131071) HT_.out ?_
  refine pU 17 35 (bl 31 262143) HT_.out ?_
  refine pU 18 36 (bl 31 524287) HT_.out ?_
  refine pU 19 37 (bl 31 1048575) HT_.out ?_
  refine pU 20 38 (bl 31 2097151) HT_.out ?_
  refine pU 21 39 (bl 31 4194303) HT_.out ?_
  refine pV 22 40 (bl 31 8388607) HT_.out ?_
  refine pV 23 41 (bl 31 16777215) HT_.out ?_
  refine pU 24 42 (bl 31 33554431) HT_.out ?_
  refine pU 25 43 (bl 31 67108863) HT_.out ?_
  refine pU 26 44 (bl 31 134217727) HT_.out ?_
  refine pU 27 45 (bl 31 268435455) HT_.out ?_
  refine pU 28 46 (bl 31 536870911) HT_.out ?_
  refine pV 29 47 (bl 31 1073741823) HT_.out ?_
  refine pV 30 8 (bl 31 2147483647) HT_.out ?_
  refine done_ (done_of HT_.out (by kernel_rfl)) ?_
  try go_wp2
  go_ret
  exact ⟨by first | rfl | (simp [eWn, eWs] <;> rfl) | (simp [*, eWn, eWs] <;> rfl), by repeat (first | (with_reducible first | exact HB.out | apply bAl | apply pbD | apply bD1 | refine bSt ?_ GE117.out | refine bSt ?_ GE118.out) | exact HB.out)⟩
 rw [if_pos c9] at H
 have c9b0 : decide ((a0_1.size : Int) ≤ t120) = true := decide_eq_true c9
 clear c9
 by_cases c10 : 0 ≤ a2
 rotate_left
 ·
  rw [if_neg c10] at H
  exact absurd H (by simp)
 rw [if_pos c10] at H
 have c10b0 := eq_true c10
 have c10b1 : decide (0 ≤ a2) = true := decide_eq_true c10
 clear c10
 by_cases c11 : a2 ≤ (wrap64 (a2 + (a0_1.size : Int)))
 rotate_left
 ·
  rw [if_neg c11] at H
  exact absurd H (by simp)
 rw [if_pos c11] at H
 have c11b0 := eq_true c11
 have c11b1 : decide (a2 ≤ (wrap64 (a2 + (a0_1.size : Int)))) = true := decide_eq_true c11
 by_cases c12 : (wrap64 (a2 + (a0_1.size : Int))) ≤ (a1.size : Int)
 rotate_left
 ·
  rw [if_neg c12] at H
  exact absurd H (by simp)
 rw [if_pos c12] at H
 have c12b0 := eq_true c12
 have c12b1 : decide ((wrap64 (a2 + (a0_1.size : Int))) ≤ (a1.size : Int)) = true := decide_eq_true c12
 by_cases c13 : (a1.extract (a2 : Int).toNat ((wrap64 (a2 + (a0_1.size : Int))) : Int).toNat).toList = a0_1.toList
 rotate_left
 ·
  rw [if_neg c13] at H
  have c13b0 : ((a1.extract (a2 : Int).toNat ((wrap64 (a2 + (a0_1.size : Int))) : Int).toNat).toList == a0_1.toList) = false := beq_eq_false_iff_ne.mpr c13
  have c13b1 : ((a1.extract (a2 : Int).toNat ((wrap64 (a2 + (a0_1.size : Int))) : Int).toNat).toList != a0_1.toList) = true := bne_iff_ne.mpr c13
  obtain rfl := oI H
  go_enter Try.func31, Try.ntmps31
  try go_wp2_with (first | ((with_reducible refine gate_dst (N := 4) rfl ?_); refine box_event ?hg (N := 4) ?hd (cs := #[.int .i64 a0_0, .string a0_1, .string a0_2, .int .i64 a0_3, .int .i64 a0_4]) (t := 33) ?hr ?_; (case hd => rfl); (case hg => rfl); (case hr => first | (go_simp; done) | (go_simp; rfl)); intro gb117 hg w25 hbox hb; have n0_ := aK (bSp (by repeat (first | (with_reducible first | exact HB.out | apply bAl | apply pbD | apply bD1) | exact HB.out)) hb); have n1_ := aK (hbox); have n2_ := aK ((by rw [hg]; exact (bSz (by repeat (first | (with_reducible first | exact HB.out | apply bAl | apply pbD | apply bD1) | exact HB.out))) : w.heap.size ≤ gb117)); have n3_ := aK ((by rw [hg]; exact (bSz (by repeat (first | (with_reducible first | exact HB.out | apply bAl | apply pbD | apply bD1) | exact HB.out))) : w.heap.size ≤ gb117)); clear HB; have HB := n0_; have BK117 := n1_; have GW117 := n2_; have GE117 := n3_; clear n0_ n1_ n2_ n3_; clear hb hbox hg) | ((with_reducible refine gate_dst (N := 9) rfl ?_); refine box_event ?hg (N := 9) ?hd (cs := #[.string (⟨#[]⟩ : ByteArray), .int .i64 0, .int .i64 0]) (t := 84) ?hr ?_; (case hd => rfl); (case hg => rfl); (case hr => first | (go_simp; done) | (go_simp; rfl)); intro gb118 hg w26 hbox hb; have n0_ := aK (kBe (g := gb117) (o := .cells #[.int .i64 a0_0, .string a0_1, .string a0_2, .int .i64 a0_3, .int .i64 a0_4] 33 (0, 0)) (by (with_reducible repeat (first | refine kDN ?_ _ | refine kDr ?_ | refine kAl ?_ _)); exact BK117.out) hb); have n1_ := aK (bSp (by repeat (first | (with_reducible first | exact HB.out | apply bAl | apply pbD | apply bD1 | refine bSt ?_ GE117.out) | exact HB.out)) hb); have n2_ := aK (hbox); have n3_ := aK ((by rw [hg]; exact (bSz (by repeat (first | (with_reducible first | exact HB.out | apply bAl | apply pbD | apply bD1 | refine bSt ?_ GE117.out) | exact HB.out))) : w.heap.size ≤ gb118)); have n4_ := aK ((by rw [hg]; exact (bSz (by repeat (first | (with_reducible first | exact HB.out | apply bAl | apply pbD | apply bD1 | refine bSt ?_ GE117.out) | exact HB.out))) : w.heap.size ≤ gb118)); have n5_ := aK ((by rw [hg]; exact Nat.ne_of_lt (blk_lt (g := gb117) (o := .cells #[.int .i64 a0_0, .string a0_1, .string a0_2, .int .i64 a0_3, .int .i64 a0_4] 33 (0, 0)) (by (with_reducible repeat (first | refine kDN ?_ _ | refine kDr ?_ | refine kAl ?_ _)); exact BK117.out)) : gb117 ≠ gb118)); have n6_ := aK ((by rw [hg]; exact Nat.ne_of_gt (blk_lt (g := gb117) (o := .cells #[.int .i64 a0_0, .string a0_1, .string a0_2, .int .i64 a0_3, .int .i64 a0_4] 33 (0, 0)) (by (with_reducible repeat (first | refine kDN ?_ _ | refine kDr ?_ | refine kAl ?_ _)); exact BK117.out)) : gb118 ≠ gb117)); clear BK117; clear HB; have BK117 := n0_; have HB := n1_; have BK118 := n2_; have GW118 := n3_; have GE118 := n4_; have NB117_118 := n5_; have NB118_117 := n6_; clear n0_ n1_ n2_ n3_ n4_ n5_ n6_; clear hb hbox hg; have hnb27 := NB118_117.out; have hnc27 := NB117_118.out; have hcz28_0 : w26.cell? ⟨gb118, 0, none⟩ = some (.string (⟨#[]⟩ : ByteArray)) := (kCe BK118.out 0).trans rfl; have hcz28_1 : w26.cell? ⟨gb118, 1, none⟩ = some (.int .i64 0) := (kCe BK118.out 1).trans rfl; have hcz28_2 : w26.cell? ⟨gb118, 2, none⟩ = some (.int .i64 0) := (kCe BK118.out 2).trans rfl; have hfz28_0 := bFz BK118.out 0; have hfz28_1 := bFz BK118.out 1; have hfz28_2 := bFz BK118.out 2; have hcz29_0 : w26.cell? ⟨gb117, 0, none⟩ = some (.int .i64 a0_0) := (kCe BK117.out 0).trans rfl; have hcz29_1 : w26.cell? ⟨gb117, 1, none⟩ = some (.string a0_1) := (kCe BK117.out 1).trans rfl; have hcz29_2 : w26.cell? ⟨gb117, 2, none⟩ = some (.string a0_2) := (kCe BK117.out 2).trans rfl; have hcz29_3 : w26.cell? ⟨gb117, 3, none⟩ = some (.int .i64 a0_3) := (kCe BK117.out 3).trans rfl; have hcz29_4 : w26.cell? ⟨gb117, 4, none⟩ = some (.int .i64 a0_4) := (kCe BK117.out 4).trans rfl; have hfz29_0 := bFz BK117.out 0; have hfz29_1 := bFz BK117.out 1; have hfz29_2 := bFz BK117.out 2; have hfz29_3 := bFz BK117.out 3; have hfz29_4 := bFz BK117.out 4))
  have n0_ : Aside0 ((((w26.setCell ⟨gb118, 0, none⟩ (.string a1)).setCell ⟨gb118, 1, none⟩ (.int .i64 a2)).setCell ⟨gb118, 2, none⟩ (.int .i64 a3)).heap[gb117]? = some (.cells #[.int .i64 a0_0, .string a0_1, .string a0_2, .int .i64 a0_3, .int .i64 a0_4] 33 (0, 0))) := ⟨by (with_reducible repeat (first | refine kDN ?_ _ | refine kDr ?_ | refine kAl ?_ _)); refine blk_far ?_ NB117_118.out _; (with_reducible repeat (first | refine kDN ?_ _ | refine kDr ?_ | refine kAl ?_ _)); refine blk_far ?_ NB117_118.out _; (with_reducible repeat (first | refine kDN ?_ _ | refine kDr ?_ | refine kAl ?_ _)); refine blk_far ?_ NB117_118.out _; (with_reducible repeat (first | refine kDN ?_ _ | refine kDr ?_ | refine kAl ?_ _)); exact BK117.out⟩
  have n1_ : Aside0 ((((w26.setCell ⟨gb118, 0, none⟩ (.string a1)).setCell ⟨gb118, 1, none⟩ (.int .i64 a2)).setCell ⟨gb118, 2, none⟩ (.int .i64 a3)).heap[gb118]? = some (.cells #[.string a1, .int .i64 a2, .int .i64 a3] 84 (0, 0))) := ⟨by (with_reducible repeat (first | refine kDN ?_ _ | refine kDr ?_ | refine kAl ?_ _)); refine blk_put (cs := #[.string a1, .int .i64 a2, .int .i64 0]) ?_ 2 _ rfl; (with_reducible repeat (first | refine kDN ?_ _ | refine kDr ?_ | refine kAl ?_ _)); refine blk_put (cs := #[.string a1, .int .i64 0, .int .i64 0]) ?_ 1 _ rfl; (with_reducible repeat (first | refine kDN ?_ _ | refine kDr ?_ | refine kAl ?_ _)); refine blk_put (cs := #[.string (⟨#[]⟩ : ByteArray), .int .i64 0, .int .i64 0]) ?_ 0 _ rfl; (with_reducible repeat (first | refine kDN ?_ _ | refine kDr ?_ | refine kAl ?_ _)); exact BK118.out⟩
  have n2_ : Aside0 (Below w.heap.size w (((w26.setCell ⟨gb118, 0, none⟩ (.string a1)).setCell ⟨gb118, 1, none⟩ (.int .i64 a2)).setCell ⟨gb118, 2, none⟩ (.int .i64 a3))) := ⟨by repeat (first | (with_reducible first | exact HB.out | apply bAl | apply pbD | apply bD1 | refine bSt ?_ GE117.out | refine bSt ?_ GE118.out) | exact HB.out)⟩
  (try clear BK117)
  (try clear BK118)
  (try clear HB)
  repeat rw [setCell_drewN]
  generalize (((w26.setCell ⟨gb118, 0, none⟩ (.string a1)).setCell ⟨gb118, 1, none⟩ (.int .i64 a2)).setCell ⟨gb118, 2, none⟩ (.int .i64 a3)) = w30 at n0_ n1_ n2_ ⊢
  have BK117 := n0_
  have BK118 := n1_
  have HB := n2_
  clear n0_ n1_ n2_
  have n0_ := aK (kDr BK117.out)
  have n1_ := aK (kDr BK118.out)
  have n2_ := aK (bD1 HB.out)
  clear BK117
  clear BK118
  clear HB
  have BK117 := n0_
  have BK118 := n1_
  have HB := n2_
  clear n0_ n1_ n2_
  refine start_ (n := 31) (S := fun w' => w'.cell? ⟨gb118, 0, none⟩ = some (.string a1) ∧ w'.cell? ⟨gb118, 1, none⟩ = some (.int .i64 a2) ∧ w'.cell? ⟨gb118, 2, none⟩ = some (.int .i64 a3) ∧ w'.cell? ⟨gb117, 0, none⟩ = some (.int .i64 a0_0) ∧ w'.cell? ⟨gb117, 1, none⟩ = some (.string a0_1) ∧ w'.cell? ⟨gb117, 2, none⟩ = some (.string a0_2) ∧ w'.cell? ⟨gb117, 3, none⟩ = some (.int .i64 a0_3) ∧ w'.cell? ⟨gb117, 4, none⟩ = some (.int .i64 a0_4)) (ds := []) (bl 31 0) (by kernel_rfl) rfl (by kernel_rfl) ⟨(kCe BK118.out 0).trans rfl, (kCe BK118.out 1).trans rfl, (kCe BK118.out 2).trans rfl, (kCe BK117.out 0).trans rfl, (kCe BK117.out 1).trans rfl, (kCe BK117.out 2).trans rfl, (kCe BK117.out 3).trans rfl, (kCe BK117.out 4).trans rfl⟩ (fun hHeld => ?_); refine with_tabW part_Eligible.tab3 part_Eligible.bits3 (fun HT_ HW_ => ?_)
  generalize w30.drew = w31 at BK117 BK118 HB hHeld ⊢
  refine tV 0 18 (bl 31 1) HT_.out HW_.out hHeld ?_ (hv := by rintro w' ⟨s0, s1, s2, s3, s4, s5, s6, s7⟩; go_simp; with_reducible rfl)
  refine one_ (i := 1) (N := some 19) (bl 31 3) rfl rfl (one_of HT_.out (by kernel_rfl)) (by decide) (fun K hK => ?_)
  refine goes_ Try.func52 (by kernel_rfl) rfl #[.agg #[.string a1, .int .i64 a2, .int .i64 a3]] (by rfl) rfl rfl (by (try simp only [qM0, qM1, qM2]); first | done | rfl | (simp only [qD0, qD1]; rfl)) ?_
  with_reducible refine (part_spot_is.calls a1 a2 a3 true _ A5.out).mono ?_
  rintro e w32 ⟨rfl, hb⟩
  refine ⟨_, rfl, ?_⟩
  have n0_ := aK (kBe (g := gb117) (o := .cells #[.int .i64 a0_0, .string a0_1, .string a0_2, .int .i64 a0_3, .int .i64 a0_4] 33 (0, 0)) (by (with_reducible repeat (first | refine kDN ?_ _ | refine kDr ?_ | refine kAl ?_ _)); exact BK117.out) hb)
  have n1_ := aK (kBe (g := gb118) (o := .cells #[.string a1, .int .i64 a2, .int .i64 a3] 84 (0, 0)) (by (with_reducible repeat (first | refine kDN ?_ _ | refine kDr ?_ | refine kAl ?_ _)); exact BK118.out) hb)
  have n2_ := aK (bSp (by repeat (first | (with_reducible first | exact HB.out | apply bAl | apply pbD | apply bD1 | refine bSt ?_ GE117.out | refine bSt ?_ GE118.out) | exact HB.out)) hb)
  clear BK117
  clear BK118
  clear HB
  have BK117 := n0_
  have BK118 := n1_
  have HB := n2_
  clear n0_ n1_ n2_
  (try clear hb)
  (try clear hb2)
  (try clear hk)
  (try clear hi)
  refine hK.out _ _ ⟨(kCe BK118.out 0).trans rfl, (kCe BK118.out 1).trans rfl, (kCe BK118.out 2).trans rfl, (kCe BK117.out 0).trans rfl, (kCe BK117.out 1).trans rfl, (kCe BK117.out 2).trans rfl, (kCe BK117.out 3).trans rfl, (kCe BK117.out 4).trans rfl⟩ (fun hHeld => ?_)
  clear hK K
  refine norm_ (a' := ?_) ?_ ?_
  rotate_left
  ·
   show Act.put _ (some 19) _ = _
   simp only [Act.put, qSa, qS0, qS1, i64_w, i32_w]
   rfl
  refine pV 2 20 (bl 31 7) HT_.out ?_
  refine pV 3 21 (bl 31 15) HT_.out ?_
  refine pV 4 22 (bl 31 31) HT_.out ?_
  refine pV 5 23 (bl 31 63) HT_.out ?_
  refine pV 6 24 (bl 31 127) HT_.out ?_
  refine pV 7 25 (bl 31 255) HT_.out ?_
  refine tV 8 26 (bl 31 511) HT_.out HW_.out hHeld ?_ (hv := by rintro w' ⟨s0, s1, s2, s3, s4, s5, s6, s7⟩; go_simp; with_reducible rfl)
  refine one_ (i := 9) (N := some 27) (bl 31 1023) rfl rfl (one_of HT_.out (by kernel_rfl)) (by decide) (fun K hK => ?_)
  refine goes_ Try.func56 (by kernel_rfl) rfl #[.agg #[.string a1, .int .i64 a2, .int .i64 a3]] (by rfl) rfl rfl (by (try simp only [qM0, qM1, qM2]); first | done | rfl | (simp only [qD0, qD1]; rfl)) ?_
  with_reducible refine (part_spot_left.calls a1 a2 a3 t120 _ A8.out).mono ?_
  rintro e w33 ⟨rfl, hb⟩
  refine ⟨_, rfl, ?_⟩
  have n0_ := aK (kBe (g := gb117) (o := .cells #[.int .i64 a0_0, .string a0_1, .string a0_2, .int .i64 a0_3, .int .i64 a0_4] 33 (0, 0)) (by (with_reducible repeat (first | refine kDN ?_ _ | refine kDr ?_ | refine kAl ?_ _)); exact BK117.out) hb)
  have n1_ := aK (kBe (g := gb118) (o := .cells #[.string a1, .int .i64 a2, .int .i64 a3] 84 (0, 0)) (by (with_reducible repeat (first | refine kDN ?_ _ | refine kDr ?_ | refine kAl ?_ _)); exact BK118.out) hb)
  have n2_ := aK (bSp (by repeat (first | (with_reducible first | exact HB.out | apply bAl | apply pbD | apply bD1 | refine bSt ?_ GE117.out | refine bSt ?_ GE118.out) | exact HB.out)) hb)
  clear BK117
  clear BK118
  clear HB
  have BK117 := n0_
  have BK118 := n1_
  have HB := n2_
  clear n0_ n1_ n2_
  (try clear hb)
  (try clear hb2)
  (try clear hk)
  (try clear hi)
  refine hK.out _ _ ⟨(kCe BK118.out 0).trans rfl, (kCe BK118.out 1).trans rfl, (kCe BK118.out 2).trans rfl, (kCe BK117.out 0).trans rfl, (kCe BK117.out 1).trans rfl, (kCe BK117.out 2).trans rfl, (kCe BK117.out 3).trans rfl, (kCe BK117.out 4).trans rfl⟩ (fun hHeld => ?_)
  clear hK K
  refine norm_ (a' := ?_) ?_ ?_
  rotate_left
  ·
   show Act.put _ (some 27) _ = _
   simp only [Act.put, qSa, qS0, qS1, i64_w, i32_w]
   rfl
  refine pV 10 28 (bl 31 2047) HT_.out ?_
  refine pV 11 29 (bl 31 4095) HT_.out ?_
  refine pV 12 30 (bl 31 8191) HT_.out ?_
  refine pV 13 31 (bl 31 16383) HT_.out ?_
  refine pV 14 32 (bl 31 32767) HT_.out ?_
  refine pV 15 33 (bl 31 65535) HT_.out ?_
  refine pV 16 34 (bl 31 131071) HT_.out ?_
  refine pV 17 35 (bl 31 262143) HT_.out ?_
  refine pV 18 36 (bl 31 524287) HT_.out ?_
  refine pV 19 37 (bl 31 1048575) HT_.out ?_
  refine tV 20 38 (bl 31 2097151) HT_.out HW_.out hHeld ?_ (hv := by rintro w' ⟨s0, s1, s2, s3, s4, s5, s6, s7⟩; go_simp; with_reducible rfl)
  refine pV 21 39 (bl 31 4194303) HT_.out ?_
  refine pV 22 40 (bl 31 8388607) HT_.out ?_
  refine pV 23 41 (bl 31 16777215) HT_.out ?_
  refine pU 24 42 (bl 31 33554431) HT_.out ?_
  refine pU 25 43 (bl 31 67108863) HT_.out ?_
  refine pU 26 44 (bl 31 134217727) HT_.out ?_
  refine pU 27 45 (bl 31 268435455) HT_.out ?_
  refine pU 28 46 (bl 31 536870911) HT_.out ?_
  refine pV 29 47 (bl 31 1073741823) HT_.out ?_
  refine pV 30 8 (bl 31 2147483647) HT_.out ?_
  refine done_ (done_of HT_.out (by kernel_rfl)) ?_
  try go_wp2
  go_ret
  exact ⟨by first | rfl | (simp [eWn, eWs] <;> rfl) | (simp [*, eWn, eWs] <;> rfl), by repeat (first | (with_reducible first | exact HB.out | apply bAl | apply pbD | apply bD1 | refine bSt ?_ GE117.out | refine bSt ?_ GE118.out) | exact HB.out)⟩
 rw [if_pos c13] at H
 have c13b0 : ((a1.extract (a2 : Int).toNat ((wrap64 (a2 + (a0_1.size : Int))) : Int).toNat).toList == a0_1.toList) = true := beq_iff_eq.mpr c13
 have c13b1 : ((a1.extract (a2 : Int).toNat ((wrap64 (a2 + (a0_1.size : Int))) : Int).toNat).toList != a0_1.toList) = false := bne_eq_false_iff_eq.mpr c13
 clear c13
 replace H := oB H
 obtain ⟨t121, A140, H⟩ := H
 replace H : (some t121) = some r := H
 have A14 := aK A140
 clear A140
 obtain rfl := oI H
 go_enter Try.func31, Try.ntmps31
 try go_wp2_with (first | ((with_reducible refine gate_dst (N := 4) rfl ?_); refine box_event ?hg (N := 4) ?hd (cs := #[.int .i64 a0_0, .string a0_1, .string a0_2, .int .i64 a0_3, .int .i64 a0_4]) (t := 33) ?hr ?_; (case hd => rfl); (case hg => rfl); (case hr => first | (go_simp; done) | (go_simp; rfl)); intro gb117 hg w15 hbox hb; have n0_ := aK (bSp (by repeat (first | (with_reducible first | exact HB.out | apply bAl | apply pbD | apply bD1) | exact HB.out)) hb); have n1_ := aK (hbox); have n2_ := aK ((by rw [hg]; exact (bSz (by repeat (first | (with_reducible first | exact HB.out | apply bAl | apply pbD | apply bD1) | exact HB.out))) : w.heap.size ≤ gb117)); have n3_ := aK ((by rw [hg]; exact (bSz (by repeat (first | (with_reducible first | exact HB.out | apply bAl | apply pbD | apply bD1) | exact HB.out))) : w.heap.size ≤ gb117)); clear HB; have HB := n0_; have BK117 := n1_; have GW117 := n2_; have GE117 := n3_; clear n0_ n1_ n2_ n3_; clear hb hbox hg) | ((with_reducible refine gate_dst (N := 9) rfl ?_); refine box_event ?hg (N := 9) ?hd (cs := #[.string (⟨#[]⟩ : ByteArray), .int .i64 0, .int .i64 0]) (t := 84) ?hr ?_; (case hd => rfl); (case hg => rfl); (case hr => first | (go_simp; done) | (go_simp; rfl)); intro gb118 hg w16 hbox hb; have n0_ := aK (kBe (g := gb117) (o := .cells #[.int .i64 a0_0, .string a0_1, .string a0_2, .int .i64 a0_3, .int .i64 a0_4] 33 (0, 0)) (by (with_reducible repeat (first | refine kDN ?_ _ | refine kDr ?_ | refine kAl ?_ _)); exact BK117.out) hb); have n1_ := aK (bSp (by repeat (first | (with_reducible first | exact HB.out | apply bAl | apply pbD | apply bD1 | refine bSt ?_ GE117.out) | exact HB.out)) hb); have n2_ := aK (hbox); have n3_ := aK ((by rw [hg]; exact (bSz (by repeat (first | (with_reducible first | exact HB.out | apply bAl | apply pbD | apply bD1 | refine bSt ?_ GE117.out) | exact HB.out))) : w.heap.size ≤ gb118)); have n4_ := aK ((by rw [hg]; exact (bSz (by repeat (first | (with_reducible first | exact HB.out | apply bAl | apply pbD | apply bD1 | refine bSt ?_ GE117.out) | exact HB.out))) : w.heap.size ≤ gb118)); have n5_ := aK ((by rw [hg]; exact Nat.ne_of_lt (blk_lt (g := gb117) (o := .cells #[.int .i64 a0_0, .string a0_1, .string a0_2, .int .i64 a0_3, .int .i64 a0_4] 33 (0, 0)) (by (with_reducible repeat (first | refine kDN ?_ _ | refine kDr ?_ | refine kAl ?_ _)); exact BK117.out)) : gb117 ≠ gb118)); have n6_ := aK ((by rw [hg]; exact Nat.ne_of_gt (blk_lt (g := gb117) (o := .cells #[.int .i64 a0_0, .string a0_1, .string a0_2, .int .i64 a0_3, .int .i64 a0_4] 33 (0, 0)) (by (with_reducible repeat (first | refine kDN ?_ _ | refine kDr ?_ | refine kAl ?_ _)); exact BK117.out)) : gb118 ≠ gb117)); clear BK117; clear HB; have BK117 := n0_; have HB := n1_; have BK118 := n2_; have GW118 := n3_; have GE118 := n4_; have NB117_118 := n5_; have NB118_117 := n6_; clear n0_ n1_ n2_ n3_ n4_ n5_ n6_; clear hb hbox hg; have hnb17 := NB118_117.out; have hnc17 := NB117_118.out; have hcz18_0 : w16.cell? ⟨gb118, 0, none⟩ = some (.string (⟨#[]⟩ : ByteArray)) := (kCe BK118.out 0).trans rfl; have hcz18_1 : w16.cell? ⟨gb118, 1, none⟩ = some (.int .i64 0) := (kCe BK118.out 1).trans rfl; have hcz18_2 : w16.cell? ⟨gb118, 2, none⟩ = some (.int .i64 0) := (kCe BK118.out 2).trans rfl; have hfz18_0 := bFz BK118.out 0; have hfz18_1 := bFz BK118.out 1; have hfz18_2 := bFz BK118.out 2; have hcz19_0 : w16.cell? ⟨gb117, 0, none⟩ = some (.int .i64 a0_0) := (kCe BK117.out 0).trans rfl; have hcz19_1 : w16.cell? ⟨gb117, 1, none⟩ = some (.string a0_1) := (kCe BK117.out 1).trans rfl; have hcz19_2 : w16.cell? ⟨gb117, 2, none⟩ = some (.string a0_2) := (kCe BK117.out 2).trans rfl; have hcz19_3 : w16.cell? ⟨gb117, 3, none⟩ = some (.int .i64 a0_3) := (kCe BK117.out 3).trans rfl; have hcz19_4 : w16.cell? ⟨gb117, 4, none⟩ = some (.int .i64 a0_4) := (kCe BK117.out 4).trans rfl; have hfz19_0 := bFz BK117.out 0; have hfz19_1 := bFz BK117.out 1; have hfz19_2 := bFz BK117.out 2; have hfz19_3 := bFz BK117.out 3; have hfz19_4 := bFz BK117.out 4))
 have n0_ : Aside0 ((((w16.setCell ⟨gb118, 0, none⟩ (.string a1)).setCell ⟨gb118, 1, none⟩ (.int .i64 a2)).setCell ⟨gb118, 2, none⟩ (.int .i64 a3)).heap[gb117]? = some (.cells #[.int .i64 a0_0, .string a0_1, .string a0_2, .int .i64 a0_3, .int .i64 a0_4] 33 (0, 0))) := ⟨by (with_reducible repeat (first | refine kDN ?_ _ | refine kDr ?_ | refine kAl ?_ _)); refine blk_far ?_ NB117_118.out _; (with_reducible repeat (first | refine kDN ?_ _ | refine kDr ?_ | refine kAl ?_ _)); refine blk_far ?_ NB117_118.out _; (with_reducible repeat (first | refine kDN ?_ _ | refine kDr ?_ | refine kAl ?_ _)); refine blk_far ?_ NB117_118.out _; (with_reducible repeat (first | refine kDN ?_ _ | refine kDr ?_ | refine kAl ?_ _)); exact BK117.out⟩
 have n1_ : Aside0 ((((w16.setCell ⟨gb118, 0, none⟩ (.string a1)).setCell ⟨gb118, 1, none⟩ (.int .i64 a2)).setCell ⟨gb118, 2, none⟩ (.int .i64 a3)).heap[gb118]? = some (.cells #[.string a1, .int .i64 a2, .int .i64 a3] 84 (0, 0))) := ⟨by (with_reducible repeat (first | refine kDN ?_ _ | refine kDr ?_ | refine kAl ?_ _)); refine blk_put (cs := #[.string a1, .int .i64 a2, .int .i64 0]) ?_ 2 _ rfl; (with_reducible repeat (first | refine kDN ?_ _ | refine kDr ?_ | refine kAl ?_ _)); refine blk_put (cs := #[.string a1, .int .i64 0, .int .i64 0]) ?_ 1 _ rfl; (with_reducible repeat (first | refine kDN ?_ _ | refine kDr ?_ | refine kAl ?_ _)); refine blk_put (cs := #[.string (⟨#[]⟩ : ByteArray), .int .i64 0, .int .i64 0]) ?_ 0 _ rfl; (with_reducible repeat (first | refine kDN ?_ _ | refine kDr ?_ | refine kAl ?_ _)); exact BK118.out⟩
 have n2_ : Aside0 (Below w.heap.size w (((w16.setCell ⟨gb118, 0, none⟩ (.string a1)).setCell ⟨gb118, 1, none⟩ (.int .i64 a2)).setCell ⟨gb118, 2, none⟩ (.int .i64 a3))) := ⟨by repeat (first | (with_reducible first | exact HB.out | apply bAl | apply pbD | apply bD1 | refine bSt ?_ GE117.out | refine bSt ?_ GE118.out) | exact HB.out)⟩
 (try clear BK117)
 (try clear BK118)
 (try clear HB)
 repeat rw [setCell_drewN]
 generalize (((w16.setCell ⟨gb118, 0, none⟩ (.string a1)).setCell ⟨gb118, 1, none⟩ (.int .i64 a2)).setCell ⟨gb118, 2, none⟩ (.int .i64 a3)) = w20 at n0_ n1_ n2_ ⊢
 have BK117 := n0_
 have BK118 := n1_
 have HB := n2_
 clear n0_ n1_ n2_
 have n0_ := aK (kDr BK117.out)
 have n1_ := aK (kDr BK118.out)
 have n2_ := aK (bD1 HB.out)
 clear BK117
 clear BK118
 clear HB
 have BK117 := n0_
 have BK118 := n1_
 have HB := n2_
 clear n0_ n1_ n2_
 refine start_ (n := 31) (S := fun w' => w'.cell? ⟨gb118, 0, none⟩ = some (.string a1) ∧ w'.cell? ⟨gb118, 1, none⟩ = some (.int .i64 a2) ∧ w'.cell? ⟨gb118, 2, none⟩ = some (.int .i64 a3) ∧ w'.cell? ⟨gb117, 0, none⟩ = some (.int .i64 a0_0) ∧ w'.cell? ⟨gb117, 1, none⟩ = some (.string a0_1) ∧ w'.cell? ⟨gb117, 2, none⟩ = some (.string a0_2) ∧ w'.cell? ⟨gb117, 3, none⟩ = some (.int .i64 a0_3) ∧ w'.cell? ⟨gb117, 4, none⟩ = some (.int .i64 a0_4)) (ds := []) (bl 31 0) (by kernel_rfl) rfl (by kernel_rfl) ⟨(kCe BK118.out 0).trans rfl, (kCe BK118.out 1).trans rfl, (kCe BK118.out 2).trans rfl, (kCe BK117.out 0).trans rfl, (kCe BK117.out 1).trans rfl, (kCe BK117.out 2).trans rfl, (kCe BK117.out 3).trans rfl, (kCe BK117.out 4).trans rfl⟩ (fun hHeld => ?_); refine with_tabW part_Eligible.tab3 part_Eligible.bits3 (fun HT_ HW_ => ?_)
 generalize w20.drew = w21 at BK117 BK118 HB hHeld ⊢
 refine tV 0 18 (bl 31 1) HT_.out HW_.out hHeld ?_ (hv := by rintro w' ⟨s0, s1, s2, s3, s4, s5, s6, s7⟩; go_simp; with_reducible rfl)
 refine one_ (i := 1) (N := some 19) (bl 31 3) rfl rfl (one_of HT_.out (by kernel_rfl)) (by decide) (fun K hK => ?_)
 refine goes_ Try.func52 (by kernel_rfl) rfl #[.agg #[.string a1, .int .i64 a2, .int .i64 a3]] (by rfl) rfl rfl (by (try simp only [qM0, qM1, qM2]); first | done | rfl | (simp only [qD0, qD1]; rfl)) ?_
 with_reducible refine (part_spot_is.calls a1 a2 a3 true _ A5.out).mono ?_
 rintro e w22 ⟨rfl, hb⟩
 refine ⟨_, rfl, ?_⟩
 have n0_ := aK (kBe (g := gb117) (o := .cells #[.int .i64 a0_0, .string a0_1, .string a0_2, .int .i64 a0_3, .int .i64 a0_4] 33 (0, 0)) (by (with_reducible repeat (first | refine kDN ?_ _ | refine kDr ?_ | refine kAl ?_ _)); exact BK117.out) hb)
 have n1_ := aK (kBe (g := gb118) (o := .cells #[.string a1, .int .i64 a2, .int .i64 a3] 84 (0, 0)) (by (with_reducible repeat (first | refine kDN ?_ _ | refine kDr ?_ | refine kAl ?_ _)); exact BK118.out) hb)
 have n2_ := aK (bSp (by repeat (first | (with_reducible first | exact HB.out | apply bAl | apply pbD | apply bD1 | refine bSt ?_ GE117.out | refine bSt ?_ GE118.out) | exact HB.out)) hb)
 clear BK117
 clear BK118
 clear HB
 have BK117 := n0_
 have BK118 := n1_
 have HB := n2_
 clear n0_ n1_ n2_
 (try clear hb)
 (try clear hb2)
 (try clear hk)
 (try clear hi)
 refine hK.out _ _ ⟨(kCe BK118.out 0).trans rfl, (kCe BK118.out 1).trans rfl, (kCe BK118.out 2).trans rfl, (kCe BK117.out 0).trans rfl, (kCe BK117.out 1).trans rfl, (kCe BK117.out 2).trans rfl, (kCe BK117.out 3).trans rfl, (kCe BK117.out 4).trans rfl⟩ (fun hHeld => ?_)
 clear hK K
 refine norm_ (a' := ?_) ?_ ?_
 rotate_left
 ·
  show Act.put _ (some 19) _ = _
  simp only [Act.put, qSa, qS0, qS1, i64_w, i32_w]
  rfl
 refine pV 2 20 (bl 31 7) HT_.out ?_
 refine pV 3 21 (bl 31 15) HT_.out ?_
 refine pV 4 22 (bl 31 31) HT_.out ?_
 refine pV 5 23 (bl 31 63) HT_.out ?_
 refine pV 6 24 (bl 31 127) HT_.out ?_
 refine pV 7 25 (bl 31 255) HT_.out ?_
 refine tV 8 26 (bl 31 511) HT_.out HW_.out hHeld ?_ (hv := by rintro w' ⟨s0, s1, s2, s3, s4, s5, s6, s7⟩; go_simp; with_reducible rfl)
 refine one_ (i := 9) (N := some 27) (bl 31 1023) rfl rfl (one_of HT_.out (by kernel_rfl)) (by decide) (fun K hK => ?_)
 refine goes_ Try.func56 (by kernel_rfl) rfl #[.agg #[.string a1, .int .i64 a2, .int .i64 a3]] (by rfl) rfl rfl (by (try simp only [qM0, qM1, qM2]); first | done | rfl | (simp only [qD0, qD1]; rfl)) ?_
 with_reducible refine (part_spot_left.calls a1 a2 a3 t120 _ A8.out).mono ?_
 rintro e w23 ⟨rfl, hb⟩
 refine ⟨_, rfl, ?_⟩
 have n0_ := aK (kBe (g := gb117) (o := .cells #[.int .i64 a0_0, .string a0_1, .string a0_2, .int .i64 a0_3, .int .i64 a0_4] 33 (0, 0)) (by (with_reducible repeat (first | refine kDN ?_ _ | refine kDr ?_ | refine kAl ?_ _)); exact BK117.out) hb)
 have n1_ := aK (kBe (g := gb118) (o := .cells #[.string a1, .int .i64 a2, .int .i64 a3] 84 (0, 0)) (by (with_reducible repeat (first | refine kDN ?_ _ | refine kDr ?_ | refine kAl ?_ _)); exact BK118.out) hb)
 have n2_ := aK (bSp (by repeat (first | (with_reducible first | exact HB.out | apply bAl | apply pbD | apply bD1 | refine bSt ?_ GE117.out | refine bSt ?_ GE118.out) | exact HB.out)) hb)
 clear BK117
 clear BK118
 clear HB
 have BK117 := n0_
 have BK118 := n1_
 have HB := n2_
 clear n0_ n1_ n2_
 (try clear hb)
 (try clear hb2)
 (try clear hk)
 (try clear hi)
 refine hK.out _ _ ⟨(kCe BK118.out 0).trans rfl, (kCe BK118.out 1).trans rfl, (kCe BK118.out 2).trans rfl, (kCe BK117.out 0).trans rfl, (kCe BK117.out 1).trans rfl, (kCe BK117.out 2).trans rfl, (kCe BK117.out 3).trans rfl, (kCe BK117.out 4).trans rfl⟩ (fun hHeld => ?_)
 clear hK K
 refine norm_ (a' := ?_) ?_ ?_
 rotate_left
 ·
  show Act.put _ (some 27) _ = _
  simp only [Act.put, qSa, qS0, qS1, i64_w, i32_w]
  rfl
 refine pV 10 28 (bl 31 2047) HT_.out ?_
 refine pV 11 29 (bl 31 4095) HT_.out ?_
 refine pV 12 30 (bl 31 8191) HT_.out ?_
 refine pV 13 31 (bl 31 16383) HT_.out ?_
 refine pV 14 32 (bl 31 32767) HT_.out ?_
 refine pV 15 33 (bl 31 65535) HT_.out ?_
 refine pV 16 34 (bl 31 131071) HT_.out ?_
 refine pV 17 35 (bl 31 262143) HT_.out ?_
 refine pV 18 36 (bl 31 524287) HT_.out ?_
 refine pV 19 37 (bl 31 1048575) HT_.out ?_
 refine tV 20 38 (bl 31 2097151) HT_.out HW_.out hHeld ?_ (hv := by rintro w' ⟨s0, s1, s2, s3, s4, s5, s6, s7⟩; go_simp; with_reducible rfl)
 refine pV 21 39 (bl 31 4194303) HT_.out ?_
 refine pV 22 40 (bl 31 8388607) HT_.out ?_
 refine pV 23 41 (bl 31 16777215) HT_.out ?_
 refine pV 25 43 (bl 31 50331647) HT_.out ?_
 refine pV 27 45 (bl 31 184549375) HT_.out ?_
 refine tV 24 42 (bl 31 201326591) HT_.out HW_.out hHeld ?_ (hv := by rintro w' ⟨s0, s1, s2, s3, s4, s5, s6, s7⟩; go_simp; with_reducible rfl)
 refine tV 26 44 (bl 31 268435455) HT_.out HW_.out hHeld ?_ (hv := by rintro w' ⟨s0, s1, s2, s3, s4, s5, s6, s7⟩; go_simp; with_reducible rfl)
 refine one_ (i := 28) (N := some 46) (bl 31 536870911) rfl rfl (one_of HT_.out (by kernel_rfl)) (by decide) (fun K hK => ?_)
 refine goes_ Try.func57 (by kernel_rfl) rfl #[.agg #[.string a1, .int .i64 a2, .int .i64 a3], .int .i64 a0_0, .int .i64 (a0_1.size : Int)] (by rfl) rfl rfl (by (try simp only [qM0, qM1, qM2]); first | done | rfl | (simp only [qD0, qD1]; rfl)) ?_
 with_reducible refine (part_spot_may.calls a1 a2 a3 a0_0 (a0_1.size : Int) t121 _ A14.out).mono ?_
 rintro e w24 ⟨rfl, hb⟩
 refine ⟨_, rfl, ?_⟩
 have n0_ := aK (kBe (g := gb117) (o := .cells #[.int .i64 a0_0, .string a0_1, .string a0_2, .int .i64 a0_3, .int .i64 a0_4] 33 (0, 0)) (by (with_reducible repeat (first | refine kDN ?_ _ | refine kDr ?_ | refine kAl ?_ _)); exact BK117.out) hb)
 have n1_ := aK (kBe (g := gb118) (o := .cells #[.string a1, .int .i64 a2, .int .i64 a3] 84 (0, 0)) (by (with_reducible repeat (first | refine kDN ?_ _ | refine kDr ?_ | refine kAl ?_ _)); exact BK118.out) hb)
 have n2_ := aK (bSp (by repeat (first | (with_reducible first | exact HB.out | apply bAl | apply pbD | apply bD1 | refine bSt ?_ GE117.out | refine bSt ?_ GE118.out) | exact HB.out)) hb)
 clear BK117
 clear BK118
 clear HB
 have BK117 := n0_
 have BK118 := n1_
 have HB := n2_
 clear n0_ n1_ n2_
 (try clear hb)
 (try clear hb2)
 (try clear hk)
 (try clear hi)
 refine hK.out _ _ ⟨(kCe BK118.out 0).trans rfl, (kCe BK118.out 1).trans rfl, (kCe BK118.out 2).trans rfl, (kCe BK117.out 0).trans rfl, (kCe BK117.out 1).trans rfl, (kCe BK117.out 2).trans rfl, (kCe BK117.out 3).trans rfl, (kCe BK117.out 4).trans rfl⟩ (fun hHeld => ?_)
 clear hK K
 refine norm_ (a' := ?_) ?_ ?_
 rotate_left
 ·
  show Act.put _ (some 46) _ = _
  simp only [Act.put, qSa, qS0, qS1, i64_w, i32_w]
  rfl
 refine pV 29 47 (bl 31 1073741823) HT_.out ?_
 refine pV 30 8 (bl 31 2147483647) HT_.out ?_
 refine done_ (done_of HT_.out (by kernel_rfl)) ?_
 try go_wp2
 go_ret
 exact ⟨by first | rfl | (simp [eWn, eWs] <;> rfl) | (simp [*, eWn, eWs] <;> rfl), by repeat (first | (with_reducible first | exact HB.out | apply bAl | apply pbD | apply bD1 | refine bSt ?_ GE117.out | refine bSt ?_ GE118.out) | exact HB.out)⟩
end Go.Proofs.Ytbpbniemjjhecaa.PChk
