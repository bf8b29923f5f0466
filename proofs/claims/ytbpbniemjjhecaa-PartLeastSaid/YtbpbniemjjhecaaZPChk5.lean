import Derived.Test.YtbpbniemjjhecaaZPChk0
import Derived.Test.YtbpbniemjjhecaaZPChk3
import Derived.Test.YtbpbniemjjhecaaZPChk4
namespace Go.Proofs.Ytbpbniemjjhecaa.PChk
open Go.RowKit Go.Proofs.Ytbpbniemjjhecaa.G Go.Proofs.YtbpbniemjjhecaaW.PrintWords Go.Proofs.YtbpbniemjjhecaaW.PrintLast Go.Proofs.YtbpbniemjjhecaaW.PrintMore
attribute [local go_sem] max2_int min2_int max_two min_two max_three min_three max_four min_four
set_option linter.unusedVariables false
set_option linter.unusedSimpArgs false
set_option maxHeartbeats 8000000
set_option maxRecDepth 100000
mutual
def r8_rule.l0 : Nat → List ByteArray → List ByteArray → Int → Int → ByteArray → ByteArray → Int → Int → Option (Int × ByteArray × ByteArray × Int × Int × Bool)
 | 0, _, _, _, _, _, _, _, _ => none
 | k + 1, x6, x8, x9, x149000, x149001, x149002, x149003, x149004 => if x9 < (x8.length : Int) then (if 0 ≤ x9 then (if 0 < (x6.length : Int) then (if (rdOf ByteArray.empty x8 x9).toList = (rdOf ByteArray.empty x6 0).toList then (r8_rule.l0 k x6 x8 (wrap64 (x9 + 1)) x9 x149001 x149002 x149003 x149004) else (r8_rule.l0 k x6 x8 (wrap64 (x9 + 1)) x149000 x149001 x149002 x149003 x149004)) else (none)) else (none)) else (if x149000 = 0 then (r8_rule.j1 k x6 true x149000 x149001 x149002 x149003 x149004) else (if x149000 ≤ 5 then (if (x6.length : Int) = 4 then (if x149000 > 5 then (if (x6.length : Int) = 3 then (if 1 < (x6.length : Int) then ((r8_left.f k x149000 (rdOf ByteArray.empty x6 1)).bind fun t155 => (r8_rule.j1 k x6 (!t155) x149000 x149001 x149002 x149003 x149004)) else (none)) else (r8_rule.j1 k x6 true x149000 x149001 x149002 x149003 x149004)) else (if 1 < (x6.length : Int) then ((r8_left.f k x149000 (rdOf ByteArray.empty x6 1)).bind fun t157 => (r8_rule.j1 k x6 (!t157) x149000 x149001 x149002 x149003 x149004)) else (none))) else (r8_rule.j1 k x6 true x149000 x149001 x149002 x149003 x149004)) else (if x149000 > 5 then (if (x6.length : Int) = 3 then (if 1 < (x6.length : Int) then ((r8_left.f k x149000 (rdOf ByteArray.empty x6 1)).bind fun t159 => (r8_rule.j1 k x6 (!t159) x149000 x149001 x149002 x149003 x149004)) else (none)) else (r8_rule.j1 k x6 true x149000 x149001 x149002 x149003 x149004)) else (if 1 < (x6.length : Int) then ((r8_left.f k x149000 (rdOf ByteArray.empty x6 1)).bind fun t161 => (r8_rule.j1 k x6 (!t161) x149000 x149001 x149002 x149003 x149004)) else (none)))))
def r8_rule.j1 : Nat → List ByteArray → Bool → Int → ByteArray → ByteArray → Int → Int → Option (Int × ByteArray × ByteArray × Int × Int × Bool)
 | 0, _, _, _, _, _, _, _ => none
 | k + 1, x6, x64, x149000, x149001, x149002, x149003, x149004 => if x64 = true then (some (x149000, x149001, x149002, x149003, x149004, false)) else (if 2 < (x6.length : Int) then ((r2_Parse.f k (rdOf ByteArray.empty x6 2)).bind fun bt163 => (if bt163.2 ≥ 0 then (some (x149000, x149001, x149002, x149003, x149004, false)) else (if 1 < (x6.length : Int) then (if x149000 ≤ 5 then (if 3 < (x6.length : Int) then ((r8_digits.f k (rdOf ByteArray.empty x6 3)).bind fun t167 => (some (x149000, rdOf ByteArray.empty x6 1, bt163.1, t167, x149004, decide (t167 ≥ 0)))) else (none)) else (some (x149000, rdOf ByteArray.empty x6 1, bt163.1, x149003, x149004, decide (x149003 ≥ 0)))) else (none)))) else (none))
end
def r8_rule.f (k : Nat) (a0 : ByteArray) (a1 : Int) : Option (Int × ByteArray × ByteArray × Int × Int × Bool) := (r8_fields.f k a0).bind fun t145 => ((r8_Words.f).bind fun t149 => (r8_rule.l0 k t145 t149 1 0 (⟨#[]⟩ : ByteArray) (⟨#[]⟩ : ByteArray) 0 a1))
theorem r8_rule.mono_l : ∀ k, (∀ y0 y1 y2 y3 y4 y5 y6 y7, LeO (r8_rule.l0 k y0 y1 y2 y3 y4 y5 y6 y7) (r8_rule.l0 (k + 1) y0 y1 y2 y3 y4 y5 y6 y7)) ∧ (∀ y0 y1 y2 y3 y4 y5 y6, LeO (r8_rule.j1 k y0 y1 y2 y3 y4 y5 y6) (r8_rule.j1 (k + 1) y0 y1 y2 y3 y4 y5 y6))
 | 0 => ⟨fun _ _ _ _ _ _ _ _ r h => by simp [r8_rule.l0] at h, fun _ _ _ _ _ _ _ r h => by simp [r8_rule.j1] at h⟩
 | k + 1 => by
  obtain ⟨ih0, ih1⟩ := r8_rule.mono_l k
  refine ⟨?_, ?_⟩
  ·
   intro y0 y1 y2 y3 y4 y5 y6 y7
   unfold r8_rule.l0
   repeat' first
   | (with_reducible first | exact ih0 _ _ _ _ _ _ _ _ | exact ih1 _ _ _ _ _ _ _ | exact r2_Parse.mono _ _ | exact r8_digits.mono _ _ | exact r8_fields.mono _ _ | exact r8_left.mono _ _ _ | exact LeO.refl _ | exact LeO.none _ | refine LeO.ite ?_ ?_ | refine LeO.bind ?_ (fun _ => ?_))
   | exact ih0 _ _ _ _ _ _ _ _
   | exact ih1 _ _ _ _ _ _ _
   | exact r2_Parse.mono _ _
   | exact r8_digits.mono _ _
   | exact r8_fields.mono _ _
   | exact r8_left.mono _ _ _
   | exact LeO.none _
   | refine LeO.ite ?_ ?_
   | refine LeO.bind ?_ (fun _ => ?_)
  ·
   intro y0 y1 y2 y3 y4 y5 y6
   unfold r8_rule.j1
   repeat' first
   | (with_reducible first | exact ih0 _ _ _ _ _ _ _ _ | exact ih1 _ _ _ _ _ _ _ | exact r2_Parse.mono _ _ | exact r8_digits.mono _ _ | exact r8_fields.mono _ _ | exact r8_left.mono _ _ _ | exact LeO.refl _ | exact LeO.none _ | refine LeO.ite ?_ ?_ | refine LeO.bind ?_ (fun _ => ?_))
   | exact ih0 _ _ _ _ _ _ _ _
   | exact ih1 _ _ _ _ _ _ _
   | exact r2_Parse.mono _ _
   | exact r8_digits.mono _ _
   | exact r8_fields.mono _ _
   | exact r8_left.mono _ _ _
   | exact LeO.none _
   | refine LeO.ite ?_ ?_
   | refine LeO.bind ?_ (fun _ => ?_)
theorem r8_rule.mono : ∀ a0 a1 k, LeO (r8_rule.f k a0 a1) (r8_rule.f (k + 1) a0 a1) := by
 intro a0 a1 k
 obtain ⟨ih0, ih1⟩ := r8_rule.mono_l k
 unfold r8_rule.f
 repeat' first
   | (with_reducible first | exact ih0 _ _ _ _ _ _ _ _ | exact ih1 _ _ _ _ _ _ _ | exact r2_Parse.mono _ _ | exact r8_digits.mono _ _ | exact r8_fields.mono _ _ | exact r8_left.mono _ _ _ | exact LeO.refl _ | exact LeO.none _ | refine LeO.ite ?_ ?_ | refine LeO.bind ?_ (fun _ => ?_))
   | exact ih0 _ _ _ _ _ _ _ _
   | exact ih1 _ _ _ _ _ _ _
   | exact r2_Parse.mono _ _
   | exact r8_digits.mono _ _
   | exact r8_fields.mono _ _
   | exact r8_left.mono _ _ _
   | exact LeO.none _
   | refine LeO.ite ?_ ?_
   | refine LeO.bind ?_ (fun _ => ?_)
def r8_rule.T7 : Bool × List (List Nat × List Nat) := (true, [([], []), ([], []), ([0, 1], [0, 1]), ([2], [2]), ([], []), ([4], [4]), ([5], [5]), ([3, 6], [3, 6])])
def r8_rule.B7 : List Nat := [0, 0, 3, 7, 0, 16, 48, 127]
theorem r8_rule.tab7 : rtab .any (opsOf Try.f78 7) = r8_rule.T7 := by kernel_rfl
theorem r8_rule.bits7 : waitsOk r8_rule.T7.2 r8_rule.B7 = true := by kernel_rfl
def r8_rule.T9 : Bool × List (List Nat × List Nat) := (true, [([], []), ([0], [0]), ([1], [1]), ([2], [2]), ([3], [3]), ([4, 3], [3, 4]), ([5, 3], [3, 5]), ([6, 3, 3], [3, 6]), ([7], [7]), ([8, 7], [7, 8]), ([9, 7], [7, 9]), ([7, 10, 3], [3, 7, 10]), ([3, 11], [3, 11]), ([12, 7], [12]), ([13], [13]), ([14, 13], [13, 14]), ([15, 13], [13, 15]), ([16, 13, 13], [13, 16]), ([17], [17]), ([18, 17], [17, 18]), ([19, 17], [17, 19]), ([17, 20, 13], [13, 17, 20]), ([13, 21], [13, 21]), ([22, 17], [22]), ([23], [23]), ([24, 23], [23, 24]), ([23], [23]), ([26, 23], [23, 26]), ([27, 23], [23, 27]), ([25, 28, 23, 23], [23, 25, 28]), ([29, 23], [23, 29]), ([23, 30], [23, 30])])
def r8_rule.B9 : List Nat := [0, 1, 3, 7, 15, 31, 63, 127, 255, 511, 1023, 2047, 4095, 8191, 16383, 32767, 65535, 131071, 262143, 524287, 1048575, 2097151, 4194303, 8388607, 16777215, 33554431, 16777215, 83886079, 218103807, 536870911, 1073741823, 2147483647]
theorem r8_rule.tab9 : rtab .any (opsOf Try.f78 9) = r8_rule.T9 := by kernel_rfl
theorem r8_rule.bits9 : waitsOk r8_rule.T9.2 r8_rule.B9 = true := by kernel_rfl
theorem r8_rule.calls (k : Nat) (a0 : ByteArray) (a1 : Int) (r1 : Int) (r2 : ByteArray) (r3 : ByteArray) (r4 : Int) (r5 : Int) (r6 : Bool) (w : World) (h : r8_rule.f k a0 a1 = some (r1, r2, r3, r4, r5, r6)) :
  Calls Try.prog 78 #[.string a0, .int .i64 a1] w fun e w' => e = .returned (.tuple #[.agg #[.int .i64 r1, .string r2, .string r3, .int .i64 r4, .int .i64 r5], .bool r6]) ∧ Below w.heap.size w w' := by
 have hu33 := Try.underlying33
 have HB := aK (Below.refl w.heap.size w)
 have H : ((r8_fields.f k a0).bind fun t145 => ((r8_Words.f).bind fun t149 => (r8_rule.l0 k t145 t149 1 0 (⟨#[]⟩ : ByteArray) (⟨#[]⟩ : ByteArray) 0 a1))) = some (r1, r2, r3, r4, r5, r6) := h
 clear h
 replace H := oB H
 obtain ⟨t145, A30, H⟩ := H
 try dsimp only at H
 have A3 := aK A30
 clear A30
 replace H := oB H
 obtain ⟨t149, A40, H⟩ := H
 try dsimp only at H
 have A4 := aK A40
 clear A40
 have H' := aK H
 clear H
 go_enter Try.func78, Try.ntmps78
 go_wp2_with (first | ((with_reducible refine gate_dst (N := 4) rfl ?_); (try (refine gate_guard (by rfl) ?_; dsimp only)); refine box_event ?hg (N := 4) ?hd (cs := #[.int .i64 0, .string (⟨#[]⟩ : ByteArray), .string (⟨#[]⟩ : ByteArray), .int .i64 0, .int .i64 0]) (t := 33) ?hr ?_; (case hd => rfl); (case hg => rfl); (case hr => first | (go_simp; done) | (go_simp; rfl)); intro gb144 hg w5 hbox hb; have n0_ := aK (bSp (by repeat (first | (with_reducible first | exact HB.out | apply bAl | apply pbD | apply bD1) | exact HB.out)) hb); have n1_ := aK (hbox); have n2_ := aK ((by rw [hg]; exact (bSz (by repeat (first | (with_reducible first | exact HB.out | apply bAl | apply pbD | apply bD1) | exact HB.out))) : w.heap.size ≤ gb144)); have n3_ := aK ((by rw [hg]; exact (bSz (by repeat (first | (with_reducible first | exact HB.out | apply bAl | apply pbD | apply bD1) | exact HB.out))) : w.heap.size ≤ gb144)); clear HB; have HB := n0_; have BK144 := n1_; have GW144 := n2_; have GE144 := n3_; clear n0_ n1_ n2_ n3_; clear hb hbox hg) | ((with_reducible refine gate_callee (f := 90) rfl ?_); refine goesL_ (some 13) rfl rfl Try.func90 (by kernel_rfl) rfl #[.string a0] rfl (by (try simp only [qM0, qM1, qM2]); first | done | rfl | (simp only [qD0, qD1]; rfl)) ?_; (with_reducible refine (r8_fields.calls k a0 t145 _ A3.out).mono ?_); rintro e w6 ⟨v146, rfl, ho0, hb⟩; refine ⟨_, rfl, ?_⟩; have n0_ := aK (Kd.R_lower ho0 (bSz (by repeat (first | (with_reducible first | exact HB.out | apply bAl | apply pbD | apply bD1 | refine bSt ?_ GE144.out) | exact HB.out)))); have n1_ := aK (kBe (g := gb144) (o := .cells #[.int .i64 0, .string (⟨#[]⟩ : ByteArray), .string (⟨#[]⟩ : ByteArray), .int .i64 0, .int .i64 0] 33 (0, 0)) (by (with_reducible repeat (first | refine kDN ?_ _ | refine kDr ?_ | refine kAl ?_ _)); exact BK144.out) hb); have n2_ := aK (bSp (by repeat (first | (with_reducible first | exact HB.out | apply bAl | apply pbD | apply bD1 | refine bSt ?_ GE144.out) | exact HB.out)) hb); clear BK144; clear HB; have HO147 := n0_; have BK144 := n1_; have HB := n2_; clear n0_ n1_ n2_; (try clear hb); (try clear hb2); (try clear hk); (try clear hi); (try clear ho0)) | ((with_reducible refine gate_dst (N := 7) rfl ?_); (try (refine gate_guard (by rfl) ?_; dsimp only)); refine box_event ?hg (N := 7) ?hd (cs := #[.int .i64 0, .string (⟨#[]⟩ : ByteArray), .string (⟨#[]⟩ : ByteArray), .int .i64 0, .int .i64 0]) (t := 33) ?hr ?_; (case hd => rfl); (case hg => rfl); (case hr => first | (go_simp; done) | (go_simp; rfl)); intro gb148 hg w7 hbox hb; have n0_ := aK (Kd.R_below (by (with_reducible repeat (first | apply Kd.R_alloc | apply Kd.R_drewN | apply Kd.R_drew)); exact HO147.out) hb); have n1_ := aK (kBe (g := gb144) (o := .cells #[.int .i64 0, .string (⟨#[]⟩ : ByteArray), .string (⟨#[]⟩ : ByteArray), .int .i64 0, .int .i64 0] 33 (0, 0)) (by (with_reducible repeat (first | refine kDN ?_ _ | refine kDr ?_ | refine kAl ?_ _)); exact BK144.out) hb); have n2_ := aK (bSp (by repeat (first | (with_reducible first | exact HB.out | apply bAl | apply pbD | apply bD1 | refine bSt ?_ GE144.out) | exact HB.out)) hb); have n3_ := aK (hbox); have n4_ := aK ((by rw [hg]; exact (bSz (by repeat (first | (with_reducible first | exact HB.out | apply bAl | apply pbD | apply bD1 | refine bSt ?_ GE144.out) | exact HB.out))) : w.heap.size ≤ gb148)); have n5_ := aK ((by rw [hg]; exact (bSz (by repeat (first | (with_reducible first | exact HB.out | apply bAl | apply pbD | apply bD1 | refine bSt ?_ GE144.out) | exact HB.out))) : w.heap.size ≤ gb148)); have n6_ := aK ((by rw [hg]; exact Nat.ne_of_lt (blk_lt (g := gb144) (o := .cells #[.int .i64 0, .string (⟨#[]⟩ : ByteArray), .string (⟨#[]⟩ : ByteArray), .int .i64 0, .int .i64 0] 33 (0, 0)) (by (with_reducible repeat (first | refine kDN ?_ _ | refine kDr ?_ | refine kAl ?_ _)); exact BK144.out)) : gb144 ≠ gb148)); have n7_ := aK ((by rw [hg]; exact Nat.ne_of_gt (blk_lt (g := gb144) (o := .cells #[.int .i64 0, .string (⟨#[]⟩ : ByteArray), .string (⟨#[]⟩ : ByteArray), .int .i64 0, .int .i64 0] 33 (0, 0)) (by (with_reducible repeat (first | refine kDN ?_ _ | refine kDr ?_ | refine kAl ?_ _)); exact BK144.out)) : gb148 ≠ gb144)); clear HO147; clear BK144; clear HB; have HO147 := n0_; have BK144 := n1_; have HB := n2_; have BK148 := n3_; have GW148 := n4_; have GE148 := n5_; have NB144_148 := n6_; have NB148_144 := n7_; clear n0_ n1_ n2_ n3_ n4_ n5_ n6_ n7_; clear hb hbox hg; have hnb8 := NB148_144.out; have hnc8 := NB144_148.out; have hcz9_0 : w7.cell? ⟨gb148, 0, none⟩ = some (.int .i64 0) := (kCe BK148.out 0).trans rfl; have hcz9_1 : w7.cell? ⟨gb148, 1, none⟩ = some (.string (⟨#[]⟩ : ByteArray)) := (kCe BK148.out 1).trans rfl; have hcz9_2 : w7.cell? ⟨gb148, 2, none⟩ = some (.string (⟨#[]⟩ : ByteArray)) := (kCe BK148.out 2).trans rfl; have hcz9_3 : w7.cell? ⟨gb148, 3, none⟩ = some (.int .i64 0) := (kCe BK148.out 3).trans rfl; have hcz9_4 : w7.cell? ⟨gb148, 4, none⟩ = some (.int .i64 0) := (kCe BK148.out 4).trans rfl; have hfz9_0 := bFz BK148.out 0; have hfz9_1 := bFz BK148.out 1; have hfz9_2 := bFz BK148.out 2; have hfz9_3 := bFz BK148.out 3; have hfz9_4 := bFz BK148.out 4) | ((with_reducible refine gate_callee (f := 91) rfl ?_); refine goesL_ (some 16) rfl rfl Try.func91 (by kernel_rfl) rfl #[] rfl (by (try simp only [qM0, qM1, qM2]); first | done | rfl | (simp only [qD0, qD1]; rfl)) ?_; (with_reducible refine (r8_Words.calls  t149 _ A4.out).mono ?_); rintro e w10 ⟨v150, rfl, ho0, hb⟩; refine ⟨_, rfl, ?_⟩; have n0_ := aK (Kd.R_elder' (by (with_reducible repeat (first | apply Kd.R_alloc | apply Kd.R_drewN | apply Kd.R_drew)); exact (Kd.R_mono (Kd.R_far (p := ⟨gb148, 4, none⟩) (Kd.R_far (p := ⟨gb148, 3, none⟩) (Kd.R_far (p := ⟨gb148, 2, none⟩) (Kd.R_far (p := ⟨gb148, 1, none⟩) (Kd.R_far (p := ⟨gb148, 0, none⟩) (Kd.R_types HO147.out BK148.out (by decide)) (fun _ hk => hk.2) (.int .i64 0)) (fun _ hk => hk.2) (.string (⟨#[]⟩ : ByteArray))) (fun _ hk => hk.2) (.string (⟨#[]⟩ : ByteArray))) (fun _ hk => hk.2) (.int .i64 0)) (fun _ hk => hk.2) (.int .i64 a1)) (fun _ h_ => h_.1))) (Kd.R_base ho0) hb); have n1_ := aK (Kd.R_lower (Kd.R_new' ho0 (Kd.R_lt (by (with_reducible repeat (first | apply Kd.R_alloc | apply Kd.R_drewN | apply Kd.R_drew)); exact (Kd.R_mono (Kd.R_far (p := ⟨gb148, 4, none⟩) (Kd.R_far (p := ⟨gb148, 3, none⟩) (Kd.R_far (p := ⟨gb148, 2, none⟩) (Kd.R_far (p := ⟨gb148, 1, none⟩) (Kd.R_far (p := ⟨gb148, 0, none⟩) (Kd.R_types HO147.out BK148.out (by decide)) (fun _ hk => hk.2) (.int .i64 0)) (fun _ hk => hk.2) (.string (⟨#[]⟩ : ByteArray))) (fun _ hk => hk.2) (.string (⟨#[]⟩ : ByteArray))) (fun _ hk => hk.2) (.int .i64 0)) (fun _ hk => hk.2) (.int .i64 a1)) (fun _ h_ => h_.1))))) (bSz (by repeat (first | (with_reducible first | exact HB.out | apply bAl | apply pbD | apply bD1 | refine bSt ?_ GE144.out | refine bSt ?_ GE148.out) | exact HB.out)))); have n2_ := aK (kBe (g := gb144) (o := .cells #[.int .i64 0, .string (⟨#[]⟩ : ByteArray), .string (⟨#[]⟩ : ByteArray), .int .i64 0, .int .i64 0] 33 (0, 0)) (by (with_reducible repeat (first | refine kDN ?_ _ | refine kDr ?_ | refine kAl ?_ _)); refine blk_far ?_ NB144_148.out _; (with_reducible repeat (first | refine kDN ?_ _ | refine kDr ?_ | refine kAl ?_ _)); refine blk_far ?_ NB144_148.out _; (with_reducible repeat (first | refine kDN ?_ _ | refine kDr ?_ | refine kAl ?_ _)); refine blk_far ?_ NB144_148.out _; (with_reducible repeat (first | refine kDN ?_ _ | refine kDr ?_ | refine kAl ?_ _)); refine blk_far ?_ NB144_148.out _; (with_reducible repeat (first | refine kDN ?_ _ | refine kDr ?_ | refine kAl ?_ _)); refine blk_far ?_ NB144_148.out _; (with_reducible repeat (first | refine kDN ?_ _ | refine kDr ?_ | refine kAl ?_ _)); exact BK144.out) hb); have n3_ := aK (kBe (g := gb148) (o := .cells #[.int .i64 0, .string (⟨#[]⟩ : ByteArray), .string (⟨#[]⟩ : ByteArray), .int .i64 0, .int .i64 a1] 33 (0, 0)) (by (with_reducible repeat (first | refine kDN ?_ _ | refine kDr ?_ | refine kAl ?_ _)); refine blk_put (cs := #[.int .i64 0, .string (⟨#[]⟩ : ByteArray), .string (⟨#[]⟩ : ByteArray), .int .i64 0, .int .i64 0]) ?_ 4 _ rfl; (with_reducible repeat (first | refine kDN ?_ _ | refine kDr ?_ | refine kAl ?_ _)); refine blk_put (cs := #[.int .i64 0, .string (⟨#[]⟩ : ByteArray), .string (⟨#[]⟩ : ByteArray), .int .i64 0, .int .i64 0]) ?_ 3 _ rfl; (with_reducible repeat (first | refine kDN ?_ _ | refine kDr ?_ | refine kAl ?_ _)); refine blk_put (cs := #[.int .i64 0, .string (⟨#[]⟩ : ByteArray), .string (⟨#[]⟩ : ByteArray), .int .i64 0, .int .i64 0]) ?_ 2 _ rfl; (with_reducible repeat (first | refine kDN ?_ _ | refine kDr ?_ | refine kAl ?_ _)); refine blk_put (cs := #[.int .i64 0, .string (⟨#[]⟩ : ByteArray), .string (⟨#[]⟩ : ByteArray), .int .i64 0, .int .i64 0]) ?_ 1 _ rfl; (with_reducible repeat (first | refine kDN ?_ _ | refine kDr ?_ | refine kAl ?_ _)); refine blk_put (cs := #[.int .i64 0, .string (⟨#[]⟩ : ByteArray), .string (⟨#[]⟩ : ByteArray), .int .i64 0, .int .i64 0]) ?_ 0 _ rfl; (with_reducible repeat (first | refine kDN ?_ _ | refine kDr ?_ | refine kAl ?_ _)); exact BK148.out) hb); have n4_ := aK (bSp (by repeat (first | (with_reducible first | exact HB.out | apply bAl | apply pbD | apply bD1 | refine bSt ?_ GE144.out | refine bSt ?_ GE148.out) | exact HB.out)) hb); clear HO147; clear BK144; clear BK148; clear HB; have HO147 := n0_; have HO151 := n1_; have BK144 := n2_; have BK148 := n3_; have HB := n4_; clear n0_ n1_ n2_ n3_ n4_; (try clear hb); (try clear hb2); (try clear hk); (try clear hi); (try clear ho0)))
 go_loopg [9] k (fun kq v9 w' => ∃ (x9_1 : Int) (x149000_1 : Int), v9 = .int .i64 x9_1 ∧ Aside0 (r8_rule.l0 kq t145 t149 x9_1 x149000_1 (⟨#[]⟩ : ByteArray) (⟨#[]⟩ : ByteArray) 0 a1 = some (r1, r2, r3, r4, r5, r6)) ∧ Aside0 (kq ≤ k) ∧ Aside0 (Kd.R Kd.string 9 w' w.heap.size (fun k_ => some k_ ≠ (v150 : Value).ownBlock) v146 t145) ∧ Aside0 (Kd.R Kd.string 9 w' w.heap.size (fun k_ => some k_ ≠ (v146 : Value).ownBlock) v150 t149) ∧ Aside0 (w'.heap[gb144]? = some (.cells #[.int .i64 0, .string (⟨#[]⟩ : ByteArray), .string (⟨#[]⟩ : ByteArray), .int .i64 0, .int .i64 0] 33 (0, 0))) ∧ Aside0 (w'.heap[gb148]? = some (.cells #[.int .i64 x149000_1, .string (⟨#[]⟩ : ByteArray), .string (⟨#[]⟩ : ByteArray), .int .i64 0, .int .i64 a1] 33 (0, 0))) ∧ Aside0 (Below w.heap.size w w'))
 case atStart => exact ⟨(1), (0), (by first | rfl | (simp; done) | (simp [*]; done)), H', ⟨Nat.le_refl _⟩, ⟨by (with_reducible repeat (first | apply Kd.R_alloc | apply Kd.R_drewN | apply Kd.R_drew)); exact Kd.R_mono HO147.out (fun _ hk => hk.2)⟩, ⟨by (with_reducible repeat (first | apply Kd.R_alloc | apply Kd.R_drewN | apply Kd.R_drew)); exact Kd.R_mono HO151.out (fun _ hk => hk.2)⟩, ⟨by (with_reducible repeat (first | refine kDN ?_ _ | refine kDr ?_ | refine kAl ?_ _)); exact BK144.out⟩, ⟨by (with_reducible repeat (first | refine kDN ?_ _ | refine kDr ?_ | refine kAl ?_ _)); exact BK148.out⟩, ⟨by repeat (first | (with_reducible first | exact HB.out | apply bAl | apply pbD | apply bD1 | refine bSt ?_ GE144.out | refine bSt ?_ GE148.out) | exact HB.out)⟩⟩
 case round =>
  clear H'
  try clear p2
  try clear c7
  try clear c8
  try clear c9
  try clear hcz9_0
  try clear hcz9_1
  try clear hcz9_2
  try clear hcz9_3
  try clear hcz9_4
  try clear hfz9_0
  try clear hfz9_1
  try clear hfz9_2
  try clear hfz9_3
  try clear hfz9_4
  obtain ⟨x9_1, x149000_1, rfl, HA, HK1, HO_6, HO_8, BK144, BK148, HB⟩ := hrel
  cases gk with
  | zero => exact absurd HA.out (by simp [r8_rule.l0])
  | succ k1 =>
   have H := HA.out
   clear HA
   simp only [r8_rule.l0] at H
   by_cases c11 : x9_1 < (t149.length : Int)
   rotate_left
   ·
    rw [if_neg c11] at H
    have c11b0 : decide (x9_1 < (t149.length : Int)) = false := decide_eq_false c11
    clear c11
    have HC23 := aK H
    clear H
    obtain ⟨Ao24, co24, eo24⟩ := Kd.R_slice HO_8.out
    subst eo24
    go_upto_region 9 with (fail)
    go_cut [64] (fun v64 wc => ∃ (kq : Nat) (x64_22 : Bool), v64 = .bool x64_22 ∧ Aside0 (r8_rule.j1 kq t145 x64_22 x149000_1 (⟨#[]⟩ : ByteArray) (⟨#[]⟩ : ByteArray) 0 a1 = some (r1, r2, r3, r4, r5, r6)) ∧ Aside0 (kq ≤ k1) ∧ Aside0 (Kd.R Kd.string 9 wc w.heap.size (fun _ => True) v146 t145) ∧ Aside0 (wc.heap[gb144]? = some (.cells #[.int .i64 0, .string (⟨#[]⟩ : ByteArray), .string (⟨#[]⟩ : ByteArray), .int .i64 0, .int .i64 0] 33 (0, 0))) ∧ Aside0 (wc.heap[gb148]? = some (.cells #[.int .i64 x149000_1, .string (⟨#[]⟩ : ByteArray), .string (⟨#[]⟩ : ByteArray), .int .i64 0, .int .i64 a1] 33 (0, 0))) ∧ Aside0 (Below w.heap.size w wc))
    case first =>
     have H := HC23.out
     clear HC23
     by_cases c25 : x149000_1 = 0
     rotate_left
     ·
      rw [if_neg c25] at H
      have c25b0 : (x149000_1 == 0) = false := beq_eq_false_iff_ne.mpr c25
      have c25b1 : (x149000_1 != 0) = true := bne_iff_ne.mpr c25
      (first | rw [c25b0] | (simp only [i64_w, i32_w]; rw [c25b0]) | skip)
      by_cases c27 : x149000_1 ≤ 5
      rotate_left
      ·
       rw [if_neg c27] at H
       have c27b0 : decide (x149000_1 ≤ 5) = false := decide_eq_false c27
       clear c27
       by_cases c45 : x149000_1 > 5
       rotate_left
       ·
        rw [if_neg c45] at H
        have c45b0 : decide (5 < x149000_1) = false := decide_eq_false c45
        clear c45
        by_cases c54 : 1 < (t145.length : Int)
        rotate_left
        ·
         rw [if_neg c54] at H
         exact absurd H (by simp)
        rw [if_pos c54] at H
        have c54b0 : decide (1 < (t145.length : Int)) = true := decide_eq_true c54
        have c54b1 : decide (1 < t145.length) = true := decide_eq_true (by omega)
        clear c54
        replace H := oB H
        obtain ⟨t161, A550, H⟩ := H
        try dsimp only at H
        have A55 := aK A550
        clear A550
        have H' := aK H
        clear H
        try go_wp2
        have n0_ := aK (Kd.R_drew HO_6.out)
        have n1_ := aK (Kd.R_drew HO_8.out)
        have n2_ := aK (kDr BK144.out)
        have n3_ := aK (kDr BK148.out)
        have n4_ := aK (bD1 HB.out)
        clear HO_6
        clear HO_8
        clear BK144
        clear BK148
        clear HB
        have HO_6 := n0_
        have HO_8 := n1_
        have BK144 := n2_
        have BK148 := n3_
        have HB := n4_
        clear n0_ n1_ n2_ n3_ n4_
        obtain ⟨Ao57, co57, eo57⟩ := Kd.R_slice HO_6.out
        (first | subst eo57 | (injection eo57 with f1_ f2_ f3_; have f4_ := f1_.symm; have f5_ := f3_.symm; clear f1_ f2_ f3_; subst f4_; subst f5_))
        have p160 : 0 ≤ (1 : Int) := (by omega)
        have q160 : 1 < (t145.length : Int) := odT (by first | (with_reducible assumption) | assumption)
        obtain ⟨ad160, e160, hx160_0⟩ := Kd.at_string (Kd.R_reads' HO_6.out).2.2 1 p160 q160
        cases e160
        (try simp only [show (1 : Int).toNat = 1 from rfl, Nat.reduceMul, Nat.reduceEqDiff, Go.Addr.add, ↓reduceIte] at hx160_0)
        have qi160 : (1 < t145.length) = True := eq_true (by omega)
        (try rw [show ((1 : Int)).toNat = 1 from rfl] at hx160_0)
        replace p160 := eq_true p160
        replace q160 := eq_true q160
        refine start_ (n := 32) (S := fun w' => w'.cell? ⟨gb148, 0, none⟩ = some (.int .i64 x149000_1) ∧ w'.cell? ⟨gb148, 1, none⟩ = some (.string (⟨#[]⟩ : ByteArray)) ∧ w'.cell? ⟨gb148, 2, none⟩ = some (.string (⟨#[]⟩ : ByteArray)) ∧ w'.cell? ⟨gb148, 3, none⟩ = some (.int .i64 0) ∧ w'.cell? ⟨gb148, 4, none⟩ = some (.int .i64 a1) ∧ w'.cell? ⟨ad160.block, ad160.off + 1, none⟩ = some (.string (rdOf ByteArray.empty t145 1))) (ds := []) (bl 32 0) (by kernel_rfl) rfl (by kernel_rfl) ⟨(kCe BK148.out 0).trans rfl, (kCe BK148.out 1).trans rfl, (kCe BK148.out 2).trans rfl, (kCe BK148.out 3).trans rfl, (kCe BK148.out 4).trans rfl, hx160_0⟩ (fun hHeld => ?_); refine with_tabW r8_rule.tab9 r8_rule.bits9 (fun HT_ HW_ => ?_)
        generalize wr.drew = w56 at HO_6 HO_8 BK144 BK148 HB hx160_0 hHeld ⊢
        refine pV 0 33 (bl 32 1) HT_.out ?_
        refine tV 1 34 (bl 32 3) HT_.out HW_.out hHeld ?_ (hv := by rintro w' ⟨s0, s1, s2, s3, s4, s5⟩; go_simp; with_reducible rfl)
        refine pV 2 35 (bl 32 7) HT_.out ?_
        refine pV 3 36 (bl 32 15) HT_.out ?_
        refine pV 4 37 (bl 32 31) HT_.out ?_
        refine tV 5 38 (bl 32 63) HT_.out HW_.out hHeld ?_ (hv := by rintro w' ⟨s0, s1, s2, s3, s4, s5⟩; go_simp; with_reducible rfl)
        refine pV 6 39 (bl 32 127) HT_.out ?_
        refine pV 7 40 (bl 32 255) HT_.out ?_
        refine pU 8 41 (bl 32 511) HT_.out ?_
        refine pU 9 42 (bl 32 1023) HT_.out ?_
        refine pU 10 43 (bl 32 2047) HT_.out ?_
        refine pV 11 44 (bl 32 4095) HT_.out ?_
        refine pV 12 45 (bl 32 8191) HT_.out ?_
        refine pV 13 46 (bl 32 16383) HT_.out ?_
        refine pV 14 47 (bl 32 32767) HT_.out ?_
        refine tV 15 48 (bl 32 65535) HT_.out HW_.out hHeld ?_ (hv := by rintro w' ⟨s0, s1, s2, s3, s4, s5⟩; go_simp; with_reducible rfl)
        refine pV 16 49 (bl 32 131071) HT_.out ?_
        refine pV 17 50 (bl 32 262143) HT_.out ?_
        refine pU 18 51 (bl 32 524287) HT_.out ?_
        refine pU 19 52 (bl 32 1048575) HT_.out ?_
        refine pU 20 53 (bl 32 2097151) HT_.out ?_
        refine pV 21 54 (bl 32 4194303) HT_.out ?_
        refine pV 22 55 (bl 32 8388607) HT_.out ?_
        refine pV 23 56 (bl 32 16777215) HT_.out ?_
        refine pV 24 57 (bl 32 33554431) HT_.out ?_
        refine pV 26 59 (bl 32 100663295) HT_.out ?_
        refine pV 27 60 (bl 32 234881023) HT_.out ?_
        refine tV 25 58 (bl 32 268435455) HT_.out HW_.out hHeld ?_ (hv := by rintro w' ⟨s0, s1, s2, s3, s4, s5⟩; go_simp; with_reducible rfl)
        refine tV 28 61 (bl 32 536870911) HT_.out HW_.out hHeld ?_ (hv := by rintro w' ⟨s0, s1, s2, s3, s4, s5⟩; go_simp; with_reducible rfl)
        refine one_ (i := 29) (N := some 62) (bl 32 1073741823) rfl rfl (one_of HT_.out (by kernel_rfl)) (by decide) (fun K hK => ?_)
        refine goes_ Try.func87 (by kernel_rfl) rfl #[.int .i64 x149000_1, .string (rdOf ByteArray.empty t145 1)] (by rfl) rfl rfl (by (try simp only [qM0, qM1, qM2]); first | done | rfl | (simp only [qD0, qD1]; rfl)) ?_
        with_reducible refine (r8_left.calls k1 x149000_1 (rdOf ByteArray.empty t145 1) t161 _ A55.out).mono ?_
        rintro e w58 ⟨rfl, hb⟩
        have HS5_ := (hb.cell (World.block_lt_of_cell? _ _ (hHeld.2.2.2.2.2))).trans (hHeld.2.2.2.2.2)
        refine ⟨_, rfl, ?_⟩
        have n0_ := aK (Kd.R_below (by (with_reducible repeat (first | apply Kd.R_alloc | apply Kd.R_drewN | apply Kd.R_drew)); exact HO_6.out) hb)
        have n1_ := aK (Kd.R_below (by (with_reducible repeat (first | apply Kd.R_alloc | apply Kd.R_drewN | apply Kd.R_drew)); exact HO_8.out) hb)
        have n2_ := aK (kBe (g := gb144) (o := .cells #[.int .i64 0, .string (⟨#[]⟩ : ByteArray), .string (⟨#[]⟩ : ByteArray), .int .i64 0, .int .i64 0] 33 (0, 0)) (by (with_reducible repeat (first | refine kDN ?_ _ | refine kDr ?_ | refine kAl ?_ _)); exact BK144.out) hb)
        have n3_ := aK (kBe (g := gb148) (o := .cells #[.int .i64 x149000_1, .string (⟨#[]⟩ : ByteArray), .string (⟨#[]⟩ : ByteArray), .int .i64 0, .int .i64 a1] 33 (0, 0)) (by (with_reducible repeat (first | refine kDN ?_ _ | refine kDr ?_ | refine kAl ?_ _)); exact BK148.out) hb)
        have n4_ := aK (bSp (by repeat (first | (with_reducible first | exact HB.out | apply bAl | apply pbD | apply bD1 | refine bSt ?_ GE144.out | refine bSt ?_ GE148.out) | exact HB.out)) hb)
        clear HO_6
        clear HO_8
        clear BK144
        clear BK148
        clear HB
        have HO_6 := n0_
        have HO_8 := n1_
        have BK144 := n2_
        have BK148 := n3_
        have HB := n4_
        clear n0_ n1_ n2_ n3_ n4_
        (try clear hb)
        (try clear hb2)
        (try clear hk)
        (try clear hi)
        refine hK.out _ _ ⟨(kCe BK148.out 0).trans rfl, (kCe BK148.out 1).trans rfl, (kCe BK148.out 2).trans rfl, (kCe BK148.out 3).trans rfl, (kCe BK148.out 4).trans rfl, HS5_⟩ (fun hHeld => ?_)
        clear hK K
        refine norm_ (a' := ?_) ?_ ?_
        rotate_left
        ·
         show Act.put _ (some 62) _ = _
         simp only [Act.put, qSa, qS0, qS1, i64_w, i32_w]
         rfl
        refine pV 30 63 (bl 32 2147483647) HT_.out ?_
        refine pV 31 64 (bl 32 4294967295) HT_.out ?_
        refine done_ (done_of HT_.out (by kernel_rfl)) ?_
        try go_wp2
        go_meet
        case rel => exact ⟨_, (!t161), (by first | rfl | (simp; done) | (simp [*]; done)), H', ⟨by have := HK1.out; first | omega | exact Nat.le_refl _⟩, ⟨by (with_reducible repeat (first | apply Kd.R_alloc | apply Kd.R_drewN | apply Kd.R_drew)); exact Kd.R_mono HO_6.out (fun _ hk => trivial)⟩, ⟨by (with_reducible repeat (first | refine kDN ?_ _ | refine kDr ?_ | refine kAl ?_ _)); exact BK144.out⟩, ⟨by (with_reducible repeat (first | refine kDN ?_ _ | refine kDr ?_ | refine kAl ?_ _)); exact BK148.out⟩, ⟨by repeat (first | (with_reducible first | exact HB.out | apply bAl | apply pbD | apply bD1 | refine bSt ?_ GE144.out | refine bSt ?_ GE148.out) | exact HB.out)⟩⟩
       rw [if_pos c45] at H
       have c45b0 : decide (5 < x149000_1) = true := decide_eq_true c45
       clear c45
       by_cases c46 : (t145.length : Int) = 3
       rotate_left
       ·
        rw [if_neg c46] at H
        have c46b0 : ((t145.length : Int) == 3) = false := beq_eq_false_iff_ne.mpr c46
        have c46b1 : ((t145.length : Int) != 3) = true := bne_iff_ne.mpr c46
        have H' := aK H
        clear H
        try go_wp2
        have n0_ := aK (Kd.R_drew HO_6.out)
        have n1_ := aK (Kd.R_drew HO_8.out)
        have n2_ := aK (kDr BK144.out)
        have n3_ := aK (kDr BK148.out)
        have n4_ := aK (bD1 HB.out)
        clear HO_6
        clear HO_8
        clear BK144
        clear BK148
        clear HB
        have HO_6 := n0_
        have HO_8 := n1_
        have BK144 := n2_
        have BK148 := n3_
        have HB := n4_
        clear n0_ n1_ n2_ n3_ n4_
        obtain ⟨Ao53, co53, eo53⟩ := Kd.R_slice HO_6.out
        (first | subst eo53 | (injection eo53 with f1_ f2_ f3_; have f4_ := f1_.symm; have f5_ := f3_.symm; clear f1_ f2_ f3_; subst f4_; subst f5_))
        refine start_ (n := 32) (S := fun w' => w'.cell? ⟨gb148, 0, none⟩ = some (.int .i64 x149000_1) ∧ w'.cell? ⟨gb148, 1, none⟩ = some (.string (⟨#[]⟩ : ByteArray)) ∧ w'.cell? ⟨gb148, 2, none⟩ = some (.string (⟨#[]⟩ : ByteArray)) ∧ w'.cell? ⟨gb148, 3, none⟩ = some (.int .i64 0) ∧ w'.cell? ⟨gb148, 4, none⟩ = some (.int .i64 a1)) (ds := []) (bl 32 0) (by kernel_rfl) rfl (by kernel_rfl) ⟨(kCe BK148.out 0).trans rfl, (kCe BK148.out 1).trans rfl, (kCe BK148.out 2).trans rfl, (kCe BK148.out 3).trans rfl, (kCe BK148.out 4).trans rfl⟩ (fun hHeld => ?_); refine with_tabW r8_rule.tab9 r8_rule.bits9 (fun HT_ HW_ => ?_)
        generalize wr.drew = w52 at HO_6 HO_8 BK144 BK148 HB hHeld ⊢
        refine pV 0 33 (bl 32 1) HT_.out ?_
        refine tV 1 34 (bl 32 3) HT_.out HW_.out hHeld ?_ (hv := by rintro w' ⟨s0, s1, s2, s3, s4⟩; go_simp; with_reducible rfl)
        refine pV 2 35 (bl 32 7) HT_.out ?_
        refine pV 3 36 (bl 32 15) HT_.out ?_
        refine pV 4 37 (bl 32 31) HT_.out ?_
        refine tV 5 38 (bl 32 63) HT_.out HW_.out hHeld ?_ (hv := by rintro w' ⟨s0, s1, s2, s3, s4⟩; go_simp; with_reducible rfl)
        refine pV 6 39 (bl 32 127) HT_.out ?_
        refine pV 7 40 (bl 32 255) HT_.out ?_
        refine pU 8 41 (bl 32 511) HT_.out ?_
        refine pU 9 42 (bl 32 1023) HT_.out ?_
        refine pU 10 43 (bl 32 2047) HT_.out ?_
        refine pV 11 44 (bl 32 4095) HT_.out ?_
        refine pV 12 45 (bl 32 8191) HT_.out ?_
        refine pV 13 46 (bl 32 16383) HT_.out ?_
        refine pV 14 47 (bl 32 32767) HT_.out ?_
        refine tV 15 48 (bl 32 65535) HT_.out HW_.out hHeld ?_ (hv := by rintro w' ⟨s0, s1, s2, s3, s4⟩; go_simp; with_reducible rfl)
        refine pV 16 49 (bl 32 131071) HT_.out ?_
        refine pV 17 50 (bl 32 262143) HT_.out ?_
        refine pV 18 51 (bl 32 524287) HT_.out ?_
        refine pV 19 52 (bl 32 1048575) HT_.out ?_
        refine pV 20 53 (bl 32 2097151) HT_.out ?_
        refine pV 21 54 (bl 32 4194303) HT_.out ?_
        refine pV 22 55 (bl 32 8388607) HT_.out ?_
        refine pV 23 56 (bl 32 16777215) HT_.out ?_
        refine pU 24 57 (bl 32 33554431) HT_.out ?_
        refine pU 25 58 (bl 32 67108863) HT_.out ?_
        refine pU 26 59 (bl 32 134217727) HT_.out ?_
        refine pU 27 60 (bl 32 268435455) HT_.out ?_
        refine pU 28 61 (bl 32 536870911) HT_.out ?_
        refine pU 29 62 (bl 32 1073741823) HT_.out ?_
        refine pU 30 63 (bl 32 2147483647) HT_.out ?_
        refine pV 31 64 (bl 32 4294967295) HT_.out ?_
        refine done_ (done_of HT_.out (by kernel_rfl)) ?_
        try go_wp2
        go_meet
        case rel => exact ⟨_, (true), (by first | rfl | (simp; done) | (simp [*]; done)), H', ⟨by have := HK1.out; first | omega | exact Nat.le_refl _⟩, ⟨by (with_reducible repeat (first | apply Kd.R_alloc | apply Kd.R_drewN | apply Kd.R_drew)); exact Kd.R_mono HO_6.out (fun _ hk => trivial)⟩, ⟨by (with_reducible repeat (first | refine kDN ?_ _ | refine kDr ?_ | refine kAl ?_ _)); exact BK144.out⟩, ⟨by (with_reducible repeat (first | refine kDN ?_ _ | refine kDr ?_ | refine kAl ?_ _)); exact BK148.out⟩, ⟨by repeat (first | (with_reducible first | exact HB.out | apply bAl | apply pbD | apply bD1 | refine bSt ?_ GE144.out | refine bSt ?_ GE148.out) | exact HB.out)⟩⟩
       rw [if_pos c46] at H
       have c46b0 : ((t145.length : Int) == 3) = true := beq_iff_eq.mpr c46
       have c46b1 : ((t145.length : Int) != 3) = false := bne_eq_false_iff_eq.mpr c46
       clear c46
       by_cases c47 : 1 < (t145.length : Int)
       rotate_left
       ·
        rw [if_neg c47] at H
        exact absurd H (by simp)
       rw [if_pos c47] at H
       have c47b0 : decide (1 < (t145.length : Int)) = true := decide_eq_true c47
       have c47b1 : decide (1 < t145.length) = true := decide_eq_true (by omega)
       clear c47
       replace H := oB H
       obtain ⟨t159, A480, H⟩ := H
       try dsimp only at H
       have A48 := aK A480
       clear A480
       have H' := aK H
       clear H
       try go_wp2
       have n0_ := aK (Kd.R_drew HO_6.out)
       have n1_ := aK (Kd.R_drew HO_8.out)
       have n2_ := aK (kDr BK144.out)
       have n3_ := aK (kDr BK148.out)
       have n4_ := aK (bD1 HB.out)
       clear HO_6
       clear HO_8
       clear BK144
       clear BK148
       clear HB
       have HO_6 := n0_
       have HO_8 := n1_
       have BK144 := n2_
       have BK148 := n3_
       have HB := n4_
       clear n0_ n1_ n2_ n3_ n4_
       obtain ⟨Ao50, co50, eo50⟩ := Kd.R_slice HO_6.out
       (first | subst eo50 | (injection eo50 with f1_ f2_ f3_; have f4_ := f1_.symm; have f5_ := f3_.symm; clear f1_ f2_ f3_; subst f4_; subst f5_))
       have p158 : 0 ≤ (1 : Int) := (by omega)
       have q158 : 1 < (t145.length : Int) := odT (by first | (with_reducible assumption) | assumption)
       obtain ⟨ad158, e158, hx158_0⟩ := Kd.at_string (Kd.R_reads' HO_6.out).2.2 1 p158 q158
       cases e158
       (try simp only [show (1 : Int).toNat = 1 from rfl, Nat.reduceMul, Nat.reduceEqDiff, Go.Addr.add, ↓reduceIte] at hx158_0)
       have qi158 : (1 < t145.length) = True := eq_true (by omega)
       (try rw [show ((1 : Int)).toNat = 1 from rfl] at hx158_0)
       replace p158 := eq_true p158
       replace q158 := eq_true q158
       refine start_ (n := 32) (S := fun w' => w'.cell? ⟨gb148, 0, none⟩ = some (.int .i64 x149000_1) ∧ w'.cell? ⟨gb148, 1, none⟩ = some (.string (⟨#[]⟩ : ByteArray)) ∧ w'.cell? ⟨gb148, 2, none⟩ = some (.string (⟨#[]⟩ : ByteArray)) ∧ w'.cell? ⟨gb148, 3, none⟩ = some (.int .i64 0) ∧ w'.cell? ⟨gb148, 4, none⟩ = some (.int .i64 a1) ∧ w'.cell? ⟨ad158.block, ad158.off + 1, none⟩ = some (.string (rdOf ByteArray.empty t145 1))) (ds := []) (bl 32 0) (by kernel_rfl) rfl (by kernel_rfl) ⟨(kCe BK148.out 0).trans rfl, (kCe BK148.out 1).trans rfl, (kCe BK148.out 2).trans rfl, (kCe BK148.out 3).trans rfl, (kCe BK148.out 4).trans rfl, hx158_0⟩ (fun hHeld => ?_); refine with_tabW r8_rule.tab9 r8_rule.bits9 (fun HT_ HW_ => ?_)
       generalize wr.drew = w49 at HO_6 HO_8 BK144 BK148 HB hx158_0 hHeld ⊢
       refine pV 0 33 (bl 32 1) HT_.out ?_
       refine tV 1 34 (bl 32 3) HT_.out HW_.out hHeld ?_ (hv := by rintro w' ⟨s0, s1, s2, s3, s4, s5⟩; go_simp; with_reducible rfl)
       refine pV 2 35 (bl 32 7) HT_.out ?_
       refine pV 3 36 (bl 32 15) HT_.out ?_
       refine pV 4 37 (bl 32 31) HT_.out ?_
       refine tV 5 38 (bl 32 63) HT_.out HW_.out hHeld ?_ (hv := by rintro w' ⟨s0, s1, s2, s3, s4, s5⟩; go_simp; with_reducible rfl)
       refine pV 6 39 (bl 32 127) HT_.out ?_
       refine pV 7 40 (bl 32 255) HT_.out ?_
       refine pU 8 41 (bl 32 511) HT_.out ?_
       refine pU 9 42 (bl 32 1023) HT_.out ?_
       refine pU 10 43 (bl 32 2047) HT_.out ?_
       refine pV 11 44 (bl 32 4095) HT_.out ?_
       refine pV 12 45 (bl 32 8191) HT_.out ?_
       refine pV 13 46 (bl 32 16383) HT_.out ?_
       refine pV 14 47 (bl 32 32767) HT_.out ?_
       refine tV 15 48 (bl 32 65535) HT_.out HW_.out hHeld ?_ (hv := by rintro w' ⟨s0, s1, s2, s3, s4, s5⟩; go_simp; with_reducible rfl)
       refine pV 16 49 (bl 32 131071) HT_.out ?_
       refine pV 17 50 (bl 32 262143) HT_.out ?_
       refine pV 18 51 (bl 32 524287) HT_.out ?_
       refine pV 19 52 (bl 32 1048575) HT_.out ?_
       refine pV 20 53 (bl 32 2097151) HT_.out ?_
       refine pV 21 54 (bl 32 4194303) HT_.out ?_
       refine pV 22 55 (bl 32 8388607) HT_.out ?_
       refine pV 23 56 (bl 32 16777215) HT_.out ?_
       refine pV 24 57 (bl 32 33554431) HT_.out ?_
       refine pV 26 59 (bl 32 100663295) HT_.out ?_
       refine pV 27 60 (bl 32 234881023) HT_.out ?_
       refine tV 25 58 (bl 32 268435455) HT_.out HW_.out hHeld ?_ (hv := by rintro w' ⟨s0, s1, s2, s3, s4, s5⟩; go_simp; with_reducible rfl)
       refine tV 28 61 (bl 32 536870911) HT_.out HW_.out hHeld ?_ (hv := by rintro w' ⟨s0, s1, s2, s3, s4, s5⟩; go_simp; with_reducible rfl)
       refine one_ (i := 29) (N := some 62) (bl 32 1073741823) rfl rfl (one_of HT_.out (by kernel_rfl)) (by decide) (fun K hK => ?_)
       refine goes_ Try.func87 (by kernel_rfl) rfl #[.int .i64 x149000_1, .string (rdOf ByteArray.empty t145 1)] (by rfl) rfl rfl (by (try simp only [qM0, qM1, qM2]); first | done | rfl | (simp only [qD0, qD1]; rfl)) ?_
       with_reducible refine (r8_left.calls k1 x149000_1 (rdOf ByteArray.empty t145 1) t159 _ A48.out).mono ?_
       rintro e w51 ⟨rfl, hb⟩
       have HS5_ := (hb.cell (World.block_lt_of_cell? _ _ (hHeld.2.2.2.2.2))).trans (hHeld.2.2.2.2.2)
       refine ⟨_, rfl, ?_⟩
       have n0_ := aK (Kd.R_below (by (with_reducible repeat (first | apply Kd.R_alloc | apply Kd.R_drewN | apply Kd.R_drew)); exact HO_6.out) hb)
       have n1_ := aK (Kd.R_below (by (with_reducible repeat (first | apply Kd.R_alloc | apply Kd.R_drewN | apply Kd.R_drew)); exact HO_8.out) hb)
       have n2_ := aK (kBe (g := gb144) (o := .cells #[.int .i64 0, .string (⟨#[]⟩ : ByteArray), .string (⟨#[]⟩ : ByteArray), .int .i64 0, .int .i64 0] 33 (0, 0)) (by (with_reducible repeat (first | refine kDN ?_ _ | refine kDr ?_ | refine kAl ?_ _)); exact BK144.out) hb)
       have n3_ := aK (kBe (g := gb148) (o := .cells #[.int .i64 x149000_1, .string (⟨#[]⟩ : ByteArray), .string (⟨#[]⟩ : ByteArray), .int .i64 0, .int .i64 a1] 33 (0, 0)) (by (with_reducible repeat (first | refine kDN ?_ _ | refine kDr ?_ | refine kAl ?_ _)); exact BK148.out) hb)
       have n4_ := aK (bSp (by repeat (first | (with_reducible first | exact HB.out | apply bAl | apply pbD | apply bD1 | refine bSt ?_ GE144.out | refine bSt ?_ GE148.out) | exact HB.out)) hb)
       clear HO_6
       clear HO_8
       clear BK144
       clear BK148
       clear HB
       have HO_6 := n0_
       have HO_8 := n1_
       have BK144 := n2_
       have BK148 := n3_
       have HB := n4_
       clear n0_ n1_ n2_ n3_ n4_
       (try clear hb)
       (try clear hb2)
       (try clear hk)
       (try clear hi)
       refine hK.out _ _ ⟨(kCe BK148.out 0).trans rfl, (kCe BK148.out 1).trans rfl, (kCe BK148.out 2).trans rfl, (kCe BK148.out 3).trans rfl, (kCe BK148.out 4).trans rfl, HS5_⟩ (fun hHeld => ?_)
       clear hK K
       refine norm_ (a' := ?_) ?_ ?_
       rotate_left
       ·
        show Act.put _ (some 62) _ = _
        simp only [Act.put, qSa, qS0, qS1, i64_w, i32_w]
        rfl
       refine pV 30 63 (bl 32 2147483647) HT_.out ?_
       refine pV 31 64 (bl 32 4294967295) HT_.out ?_
       refine done_ (done_of HT_.out (by kernel_rfl)) ?_
       try go_wp2
       go_meet
       case rel => exact ⟨_, (!t159), (by first | rfl | (simp; done) | (simp [*]; done)), H', ⟨by have := HK1.out; first | omega | exact Nat.le_refl _⟩, ⟨by (with_reducible repeat (first | apply Kd.R_alloc | apply Kd.R_drewN | apply Kd.R_drew)); exact Kd.R_mono HO_6.out (fun _ hk => trivial)⟩, ⟨by (with_reducible repeat (first | refine kDN ?_ _ | refine kDr ?_ | refine kAl ?_ _)); exact BK144.out⟩, ⟨by (with_reducible repeat (first | refine kDN ?_ _ | refine kDr ?_ | refine kAl ?_ _)); exact BK148.out⟩, ⟨by repeat (first | (with_reducible first | exact HB.out | apply bAl | apply pbD | apply bD1 | refine bSt ?_ GE144.out | refine bSt ?_ GE148.out) | exact HB.out)⟩⟩
      rw [if_pos c27] at H
      have c27b0 : decide (x149000_1 ≤ 5) = true := decide_eq_true c27
      clear c27
      by_cases c28 : (t145.length : Int) = 4
      rotate_left
      ·
       rw [if_neg c28] at H
       have c28b0 : ((t145.length : Int) == 4) = false := beq_eq_false_iff_ne.mpr c28
       have c28b1 : ((t145.length : Int) != 4) = true := bne_iff_ne.mpr c28
       have H' := aK H
       clear H
       try go_wp2
       have n0_ := aK (Kd.R_drew HO_6.out)
       have n1_ := aK (Kd.R_drew HO_8.out)
       have n2_ := aK (kDr BK144.out)
       have n3_ := aK (kDr BK148.out)
       have n4_ := aK (bD1 HB.out)
       clear HO_6
       clear HO_8
       clear BK144
       clear BK148
       clear HB
       have HO_6 := n0_
       have HO_8 := n1_
       have BK144 := n2_
       have BK148 := n3_
       have HB := n4_
       clear n0_ n1_ n2_ n3_ n4_
       obtain ⟨Ao44, co44, eo44⟩ := Kd.R_slice HO_6.out
       (first | subst eo44 | (injection eo44 with f1_ f2_ f3_; have f4_ := f1_.symm; have f5_ := f3_.symm; clear f1_ f2_ f3_; subst f4_; subst f5_))
       refine start_ (n := 32) (S := fun w' => w'.cell? ⟨gb148, 0, none⟩ = some (.int .i64 x149000_1) ∧ w'.cell? ⟨gb148, 1, none⟩ = some (.string (⟨#[]⟩ : ByteArray)) ∧ w'.cell? ⟨gb148, 2, none⟩ = some (.string (⟨#[]⟩ : ByteArray)) ∧ w'.cell? ⟨gb148, 3, none⟩ = some (.int .i64 0) ∧ w'.cell? ⟨gb148, 4, none⟩ = some (.int .i64 a1)) (ds := []) (bl 32 0) (by kernel_rfl) rfl (by kernel_rfl) ⟨(kCe BK148.out 0).trans rfl, (kCe BK148.out 1).trans rfl, (kCe BK148.out 2).trans rfl, (kCe BK148.out 3).trans rfl, (kCe BK148.out 4).trans rfl⟩ (fun hHeld => ?_); refine with_tabW r8_rule.tab9 r8_rule.bits9 (fun HT_ HW_ => ?_)
       generalize wr.drew = w43 at HO_6 HO_8 BK144 BK148 HB hHeld ⊢
       refine pV 0 33 (bl 32 1) HT_.out ?_
       refine tV 1 34 (bl 32 3) HT_.out HW_.out hHeld ?_ (hv := by rintro w' ⟨s0, s1, s2, s3, s4⟩; go_simp; with_reducible rfl)
       refine pV 2 35 (bl 32 7) HT_.out ?_
       refine pV 3 36 (bl 32 15) HT_.out ?_
       refine pV 4 37 (bl 32 31) HT_.out ?_
       refine tV 5 38 (bl 32 63) HT_.out HW_.out hHeld ?_ (hv := by rintro w' ⟨s0, s1, s2, s3, s4⟩; go_simp; with_reducible rfl)
       refine pV 6 39 (bl 32 127) HT_.out ?_
       refine pV 7 40 (bl 32 255) HT_.out ?_
       refine pV 8 41 (bl 32 511) HT_.out ?_
       refine pV 9 42 (bl 32 1023) HT_.out ?_
       refine pV 10 43 (bl 32 2047) HT_.out ?_
       refine pV 11 44 (bl 32 4095) HT_.out ?_
       refine pV 12 45 (bl 32 8191) HT_.out ?_
       refine pV 13 46 (bl 32 16383) HT_.out ?_
       refine pU 14 47 (bl 32 32767) HT_.out ?_
       refine pU 15 48 (bl 32 65535) HT_.out ?_
       refine pU 16 49 (bl 32 131071) HT_.out ?_
       refine pU 17 50 (bl 32 262143) HT_.out ?_
       refine pU 18 51 (bl 32 524287) HT_.out ?_
       refine pU 19 52 (bl 32 1048575) HT_.out ?_
       refine pU 20 53 (bl 32 2097151) HT_.out ?_
       refine pU 21 54 (bl 32 4194303) HT_.out ?_
       refine pV 22 55 (bl 32 8388607) HT_.out ?_
       refine pV 23 56 (bl 32 16777215) HT_.out ?_
       refine pU 24 57 (bl 32 33554431) HT_.out ?_
       refine pU 25 58 (bl 32 67108863) HT_.out ?_
       refine pU 26 59 (bl 32 134217727) HT_.out ?_
       refine pU 27 60 (bl 32 268435455) HT_.out ?_
       refine pU 28 61 (bl 32 536870911) HT_.out ?_
       refine pU 29 62 (bl 32 1073741823) HT_.out ?_
       refine pU 30 63 (bl 32 2147483647) HT_.out ?_
       refine pV 31 64 (bl 32 4294967295) HT_.out ?_
       refine done_ (done_of HT_.out (by kernel_rfl)) ?_
       try go_wp2
       go_meet
       case rel => exact ⟨_, (true), (by first | rfl | (simp; done) | (simp [*]; done)), H', ⟨by have := HK1.out; first | omega | exact Nat.le_refl _⟩, ⟨by (with_reducible repeat (first | apply Kd.R_alloc | apply Kd.R_drewN | apply Kd.R_drew)); exact Kd.R_mono HO_6.out (fun _ hk => trivial)⟩, ⟨by (with_reducible repeat (first | refine kDN ?_ _ | refine kDr ?_ | refine kAl ?_ _)); exact BK144.out⟩, ⟨by (with_reducible repeat (first | refine kDN ?_ _ | refine kDr ?_ | refine kAl ?_ _)); exact BK148.out⟩, ⟨by repeat (first | (with_reducible first | exact HB.out | apply bAl | apply pbD | apply bD1 | refine bSt ?_ GE144.out | refine bSt ?_ GE148.out) | exact HB.out)⟩⟩
      rw [if_pos c28] at H
      have c28b0 : ((t145.length : Int) == 4) = true := beq_iff_eq.mpr c28
      have c28b1 : ((t145.length : Int) != 4) = false := bne_eq_false_iff_eq.mpr c28
      clear c28
      by_cases c29 : x149000_1 > 5
      rotate_left
      ·
       rw [if_neg c29] at H
       have c29b0 : decide (5 < x149000_1) = false := decide_eq_false c29
       clear c29
       by_cases c38 : 1 < (t145.length : Int)
       rotate_left
       ·
        rw [if_neg c38] at H
        exact absurd H (by simp)
       rw [if_pos c38] at H
       have c38b0 : decide (1 < (t145.length : Int)) = true := decide_eq_true c38
       have c38b1 : decide (1 < t145.length) = true := decide_eq_true (by omega)
       clear c38
       replace H := oB H
       obtain ⟨t157, A390, H⟩ := H
       try dsimp only at H
       have A39 := aK A390
       clear A390
       have H' := aK H
       clear H
       try go_wp2
       have n0_ := aK (Kd.R_drew HO_6.out)
       have n1_ := aK (Kd.R_drew HO_8.out)
       have n2_ := aK (kDr BK144.out)
       have n3_ := aK (kDr BK148.out)
       have n4_ := aK (bD1 HB.out)
       clear HO_6
       clear HO_8
       clear BK144
       clear BK148
       clear HB
       have HO_6 := n0_
       have HO_8 := n1_
       have BK144 := n2_
       have BK148 := n3_
       have HB := n4_
       clear n0_ n1_ n2_ n3_ n4_
       obtain ⟨Ao41, co41, eo41⟩ := Kd.R_slice HO_6.out
       (first | subst eo41 | (injection eo41 with f1_ f2_ f3_; have f4_ := f1_.symm; have f5_ := f3_.symm; clear f1_ f2_ f3_; subst f4_; subst f5_))
       have p156 : 0 ≤ (1 : Int) := (by omega)
       have q156 : 1 < (t145.length : Int) := odT (by first | (with_reducible assumption) | assumption)
       obtain ⟨ad156, e156, hx156_0⟩ := Kd.at_string (Kd.R_reads' HO_6.out).2.2 1 p156 q156
       cases e156
       (try simp only [show (1 : Int).toNat = 1 from rfl, Nat.reduceMul, Nat.reduceEqDiff, Go.Addr.add, ↓reduceIte] at hx156_0)
       have qi156 : (1 < t145.length) = True := eq_true (by omega)
       (try rw [show ((1 : Int)).toNat = 1 from rfl] at hx156_0)
       replace p156 := eq_true p156
       replace q156 := eq_true q156
       refine start_ (n := 32) (S := fun w' => w'.cell? ⟨gb148, 0, none⟩ = some (.int .i64 x149000_1) ∧ w'.cell? ⟨gb148, 1, none⟩ = some (.string (⟨#[]⟩ : ByteArray)) ∧ w'.cell? ⟨gb148, 2, none⟩ = some (.string (⟨#[]⟩ : ByteArray)) ∧ w'.cell? ⟨gb148, 3, none⟩ = some (.int .i64 0) ∧ w'.cell? ⟨gb148, 4, none⟩ = some (.int .i64 a1) ∧ w'.cell? ⟨ad156.block, ad156.off + 1, none⟩ = some (.string (rdOf ByteArray.empty t145 1))) (ds := []) (bl 32 0) (by kernel_rfl) rfl (by kernel_rfl) ⟨(kCe BK148.out 0).trans rfl, (kCe BK148.out 1).trans rfl, (kCe BK148.out 2).trans rfl, (kCe BK148.out 3).trans rfl, (kCe BK148.out 4).trans rfl, hx156_0⟩ (fun hHeld => ?_); refine with_tabW r8_rule.tab9 r8_rule.bits9 (fun HT_ HW_ => ?_)
       generalize wr.drew = w40 at HO_6 HO_8 BK144 BK148 HB hx156_0 hHeld ⊢
       refine pV 0 33 (bl 32 1) HT_.out ?_
       refine tV 1 34 (bl 32 3) HT_.out HW_.out hHeld ?_ (hv := by rintro w' ⟨s0, s1, s2, s3, s4, s5⟩; go_simp; with_reducible rfl)
       refine pV 2 35 (bl 32 7) HT_.out ?_
       refine pV 3 36 (bl 32 15) HT_.out ?_
       refine pV 4 37 (bl 32 31) HT_.out ?_
       refine tV 5 38 (bl 32 63) HT_.out HW_.out hHeld ?_ (hv := by rintro w' ⟨s0, s1, s2, s3, s4, s5⟩; go_simp; with_reducible rfl)
       refine pV 6 39 (bl 32 127) HT_.out ?_
       refine pV 7 40 (bl 32 255) HT_.out ?_
       refine pV 8 41 (bl 32 511) HT_.out ?_
       refine pV 9 42 (bl 32 1023) HT_.out ?_
       refine pV 10 43 (bl 32 2047) HT_.out ?_
       refine pV 11 44 (bl 32 4095) HT_.out ?_
       refine pV 12 45 (bl 32 8191) HT_.out ?_
       refine pV 13 46 (bl 32 16383) HT_.out ?_
       refine pV 14 47 (bl 32 32767) HT_.out ?_
       refine tV 15 48 (bl 32 65535) HT_.out HW_.out hHeld ?_ (hv := by rintro w' ⟨s0, s1, s2, s3, s4, s5⟩; go_simp; with_reducible rfl)
       refine pV 16 49 (bl 32 131071) HT_.out ?_
       refine pV 17 50 (bl 32 262143) HT_.out ?_
       refine pU 18 51 (bl 32 524287) HT_.out ?_
       refine pU 19 52 (bl 32 1048575) HT_.out ?_
       refine pU 20 53 (bl 32 2097151) HT_.out ?_
       refine pV 21 54 (bl 32 4194303) HT_.out ?_
       refine pV 22 55 (bl 32 8388607) HT_.out ?_
       refine pV 23 56 (bl 32 16777215) HT_.out ?_
       refine pV 24 57 (bl 32 33554431) HT_.out ?_
       refine pV 26 59 (bl 32 100663295) HT_.out ?_
       refine pV 27 60 (bl 32 234881023) HT_.out ?_
       refine tV 25 58 (bl 32 268435455) HT_.out HW_.out hHeld ?_ (hv := by rintro w' ⟨s0, s1, s2, s3, s4, s5⟩; go_simp; with_reducible rfl)
       refine tV 28 61 (bl 32 536870911) HT_.out HW_.out hHeld ?_ (hv := by rintro w' ⟨s0, s1, s2, s3, s4, s5⟩; go_simp; with_reducible rfl)
       refine one_ (i := 29) (N := some 62) (bl 32 1073741823) rfl rfl (one_of HT_.out (by kernel_rfl)) (by decide) (fun K hK => ?_)
       refine goes_ Try.func87 (by kernel_rfl) rfl #[.int .i64 x149000_1, .string (rdOf ByteArray.empty t145 1)] (by rfl) rfl rfl (by (try simp only [qM0, qM1, qM2]); first | done | rfl | (simp only [qD0, qD1]; rfl)) ?_
       with_reducible refine (r8_left.calls k1 x149000_1 (rdOf ByteArray.empty t145 1) t157 _ A39.out).mono ?_
       rintro e w42 ⟨rfl, hb⟩
       have HS5_ := (hb.cell (World.block_lt_of_cell? _ _ (hHeld.2.2.2.2.2))).trans (hHeld.2.2.2.2.2)
       refine ⟨_, rfl, ?_⟩
       have n0_ := aK (Kd.R_below (by (with_reducible repeat (first | apply Kd.R_alloc | apply Kd.R_drewN | apply Kd.R_drew)); exact HO_6.out) hb)
       have n1_ := aK (Kd.R_below (by (with_reducible repeat (first | apply Kd.R_alloc | apply Kd.R_drewN | apply Kd.R_drew)); exact HO_8.out) hb)
       have n2_ := aK (kBe (g := gb144) (o := .cells #[.int .i64 0, .string (⟨#[]⟩ : ByteArray), .string (⟨#[]⟩ : ByteArray), .int .i64 0, .int .i64 0] 33 (0, 0)) (by (with_reducible repeat (first | refine kDN ?_ _ | refine kDr ?_ | refine kAl ?_ _)); exact BK144.out) hb)
       have n3_ := aK (kBe (g := gb148) (o := .cells #[.int .i64 x149000_1, .string (⟨#[]⟩ : ByteArray), .string (⟨#[]⟩ : ByteArray), .int .i64 0, .int .i64 a1] 33 (0, 0)) (by (with_reducible repeat (first | refine kDN ?_ _ | refine kDr ?_ | refine kAl ?_ _)); exact BK148.out) hb)
       have n4_ := aK (bSp (by repeat (first | (with_reducible first | exact HB.out | apply bAl | apply pbD | apply bD1 | refine bSt ?_ GE144.out | refine bSt ?_ GE148.out) | exact HB.out)) hb)
       clear HO_6
       clear HO_8
       clear BK144
       clear BK148
       clear HB
       have HO_6 := n0_
       have HO_8 := n1_
       have BK144 := n2_
       have BK148 := n3_
       have HB := n4_
       clear n0_ n1_ n2_ n3_ n4_
       (try clear hb)
       (try clear hb2)
       (try clear hk)
       (try clear hi)
       refine hK.out _ _ ⟨(kCe BK148.out 0).trans rfl, (kCe BK148.out 1).trans rfl, (kCe BK148.out 2).trans rfl, (kCe BK148.out 3).trans rfl, (kCe BK148.out 4).trans rfl, HS5_⟩ (fun hHeld => ?_)
       clear hK K
       refine norm_ (a' := ?_) ?_ ?_
       rotate_left
       ·
        show Act.put _ (some 62) _ = _
        simp only [Act.put, qSa, qS0, qS1, i64_w, i32_w]
        rfl
       refine pV 30 63 (bl 32 2147483647) HT_.out ?_
       refine pV 31 64 (bl 32 4294967295) HT_.out ?_
       refine done_ (done_of HT_.out (by kernel_rfl)) ?_
       try go_wp2
       go_meet
       case rel => exact ⟨_, (!t157), (by first | rfl | (simp; done) | (simp [*]; done)), H', ⟨by have := HK1.out; first | omega | exact Nat.le_refl _⟩, ⟨by (with_reducible repeat (first | apply Kd.R_alloc | apply Kd.R_drewN | apply Kd.R_drew)); exact Kd.R_mono HO_6.out (fun _ hk => trivial)⟩, ⟨by (with_reducible repeat (first | refine kDN ?_ _ | refine kDr ?_ | refine kAl ?_ _)); exact BK144.out⟩, ⟨by (with_reducible repeat (first | refine kDN ?_ _ | refine kDr ?_ | refine kAl ?_ _)); exact BK148.out⟩, ⟨by repeat (first | (with_reducible first | exact HB.out | apply bAl | apply pbD | apply bD1 | refine bSt ?_ GE144.out | refine bSt ?_ GE148.out) | exact HB.out)⟩⟩
      rw [if_pos c29] at H
      have c29b0 : decide (5 < x149000_1) = true := decide_eq_true c29
      clear c29
      by_cases c30 : (t145.length : Int) = 3
      rotate_left
      ·
       rw [if_neg c30] at H
       have c30b0 : ((t145.length : Int) == 3) = false := beq_eq_false_iff_ne.mpr c30
       have c30b1 : ((t145.length : Int) != 3) = true := bne_iff_ne.mpr c30
       have H' := aK H
       clear H
       try go_wp2
       have n0_ := aK (Kd.R_drew HO_6.out)
       have n1_ := aK (Kd.R_drew HO_8.out)
       have n2_ := aK (kDr BK144.out)
       have n3_ := aK (kDr BK148.out)
       have n4_ := aK (bD1 HB.out)
       clear HO_6
       clear HO_8
       clear BK144
       clear BK148
       clear HB
       have HO_6 := n0_
       have HO_8 := n1_
       have BK144 := n2_
       have BK148 := n3_
       have HB := n4_
       clear n0_ n1_ n2_ n3_ n4_
       obtain ⟨Ao37, co37, eo37⟩ := Kd.R_slice HO_6.out
       (first | subst eo37 | (injection eo37 with f1_ f2_ f3_; have f4_ := f1_.symm; have f5_ := f3_.symm; clear f1_ f2_ f3_; subst f4_; subst f5_))
       refine start_ (n := 32) (S := fun w' => w'.cell? ⟨gb148, 0, none⟩ = some (.int .i64 x149000_1) ∧ w'.cell? ⟨gb148, 1, none⟩ = some (.string (⟨#[]⟩ : ByteArray)) ∧ w'.cell? ⟨gb148, 2, none⟩ = some (.string (⟨#[]⟩ : ByteArray)) ∧ w'.cell? ⟨gb148, 3, none⟩ = some (.int .i64 0) ∧ w'.cell? ⟨gb148, 4, none⟩ = some (.int .i64 a1)) (ds := []) (bl 32 0) (by kernel_rfl) rfl (by kernel_rfl) ⟨(kCe BK148.out 0).trans rfl, (kCe BK148.out 1).trans rfl, (kCe BK148.out 2).trans rfl, (kCe BK148.out 3).trans rfl, (kCe BK148.out 4).trans rfl⟩ (fun hHeld => ?_); refine with_tabW r8_rule.tab9 r8_rule.bits9 (fun HT_ HW_ => ?_)
       generalize wr.drew = w36 at HO_6 HO_8 BK144 BK148 HB hHeld ⊢
       refine pV 0 33 (bl 32 1) HT_.out ?_
       refine tV 1 34 (bl 32 3) HT_.out HW_.out hHeld ?_ (hv := by rintro w' ⟨s0, s1, s2, s3, s4⟩; go_simp; with_reducible rfl)
       refine pV 2 35 (bl 32 7) HT_.out ?_
       refine pV 3 36 (bl 32 15) HT_.out ?_
       refine pV 4 37 (bl 32 31) HT_.out ?_
       refine tV 5 38 (bl 32 63) HT_.out HW_.out hHeld ?_ (hv := by rintro w' ⟨s0, s1, s2, s3, s4⟩; go_simp; with_reducible rfl)
       refine pV 6 39 (bl 32 127) HT_.out ?_
       refine pV 7 40 (bl 32 255) HT_.out ?_
       refine pV 8 41 (bl 32 511) HT_.out ?_
       refine pV 9 42 (bl 32 1023) HT_.out ?_
       refine pV 10 43 (bl 32 2047) HT_.out ?_
       refine pV 11 44 (bl 32 4095) HT_.out ?_
       refine pV 12 45 (bl 32 8191) HT_.out ?_
       refine pV 13 46 (bl 32 16383) HT_.out ?_
       refine pV 14 47 (bl 32 32767) HT_.out ?_
       refine tV 15 48 (bl 32 65535) HT_.out HW_.out hHeld ?_ (hv := by rintro w' ⟨s0, s1, s2, s3, s4⟩; go_simp; with_reducible rfl)
       refine pV 16 49 (bl 32 131071) HT_.out ?_
       refine pV 17 50 (bl 32 262143) HT_.out ?_
       refine pV 18 51 (bl 32 524287) HT_.out ?_
       refine pV 19 52 (bl 32 1048575) HT_.out ?_
       refine pV 20 53 (bl 32 2097151) HT_.out ?_
       refine pV 21 54 (bl 32 4194303) HT_.out ?_
       refine pV 22 55 (bl 32 8388607) HT_.out ?_
       refine pV 23 56 (bl 32 16777215) HT_.out ?_
       refine pU 24 57 (bl 32 33554431) HT_.out ?_
       refine pU 25 58 (bl 32 67108863) HT_.out ?_
       refine pU 26 59 (bl 32 134217727) HT_.out ?_
       refine pU 27 60 (bl 32 268435455) HT_.out ?_
       refine pU 28 61 (bl 32 536870911) HT_.out ?_
       refine pU 29 62 (bl 32 1073741823) HT_.out ?_
       refine pU 30 63 (bl 32 2147483647) HT_.out ?_
       refine pV 31 64 (bl 32 4294967295) HT_.out ?_
       refine done_ (done_of HT_.out (by kernel_rfl)) ?_
       try go_wp2
       go_meet
       case rel => exact ⟨_, (true), (by first | rfl | (simp; done) | (simp [*]; done)), H', ⟨by have := HK1.out; first | omega | exact Nat.le_refl _⟩, ⟨by (with_reducible repeat (first | apply Kd.R_alloc | apply Kd.R_drewN | apply Kd.R_drew)); exact Kd.R_mono HO_6.out (fun _ hk => trivial)⟩, ⟨by (with_reducible repeat (first | refine kDN ?_ _ | refine kDr ?_ | refine kAl ?_ _)); exact BK144.out⟩, ⟨by (with_reducible repeat (first | refine kDN ?_ _ | refine kDr ?_ | refine kAl ?_ _)); exact BK148.out⟩, ⟨by repeat (first | (with_reducible first | exact HB.out | apply bAl | apply pbD | apply bD1 | refine bSt ?_ GE144.out | refine bSt ?_ GE148.out) | exact HB.out)⟩⟩
      rw [if_pos c30] at H
      have c30b0 : ((t145.length : Int) == 3) = true := beq_iff_eq.mpr c30
      have c30b1 : ((t145.length : Int) != 3) = false := bne_eq_false_iff_eq.mpr c30
      clear c30
      by_cases c31 : 1 < (t145.length : Int)
      rotate_left
      ·
       rw [if_neg c31] at H
       exact absurd H (by simp)
      rw [if_pos c31] at H
      have c31b0 : decide (1 < (t145.length : Int)) = true := decide_eq_true c31
      have c31b1 : decide (1 < t145.length) = true := decide_eq_true (by omega)
      clear c31
      replace H := oB H
      obtain ⟨t155, A320, H⟩ := H
      try dsimp only at H
      have A32 := aK A320
      clear A320
      have H' := aK H
      clear H
      try go_wp2
      have n0_ := aK (Kd.R_drew HO_6.out)
      have n1_ := aK (Kd.R_drew HO_8.out)
      have n2_ := aK (kDr BK144.out)
      have n3_ := aK (kDr BK148.out)
      have n4_ := aK (bD1 HB.out)
      clear HO_6
      clear HO_8
      clear BK144
      clear BK148
      clear HB
      have HO_6 := n0_
      have HO_8 := n1_
      have BK144 := n2_
      have BK148 := n3_
      have HB := n4_
      clear n0_ n1_ n2_ n3_ n4_
      obtain ⟨Ao34, co34, eo34⟩ := Kd.R_slice HO_6.out
      (first | subst eo34 | (injection eo34 with f1_ f2_ f3_; have f4_ := f1_.symm; have f5_ := f3_.symm; clear f1_ f2_ f3_; subst f4_; subst f5_))
      have p154 : 0 ≤ (1 : Int) := (by omega)
      have q154 : 1 < (t145.length : Int) := odT (by first | (with_reducible assumption) | assumption)
      obtain ⟨ad154, e154, hx154_0⟩ := Kd.at_string (Kd.R_reads' HO_6.out).2.2 1 p154 q154
      cases e154
      (try simp only [show (1 : Int).toNat = 1 from rfl, Nat.reduceMul, Nat.reduceEqDiff, Go.Addr.add, ↓reduceIte] at hx154_0)
      have qi154 : (1 < t145.length) = True := eq_true (by omega)
      (try rw [show ((1 : Int)).toNat = 1 from rfl] at hx154_0)
      replace p154 := eq_true p154
      replace q154 := eq_true q154
      refine start_ (n := 32) (S := fun w' => w'.cell? ⟨gb148, 0, none⟩ = some (.int .i64 x149000_1) ∧ w'.cell? ⟨gb148, 1, none⟩ = some (.string (⟨#[]⟩ : ByteArray)) ∧ w'.cell? ⟨gb148, 2, none⟩ = some (.string (⟨#[]⟩ : ByteArray)) ∧ w'.cell? ⟨gb148, 3, none⟩ = some (.int .i64 0) ∧ w'.cell? ⟨gb148, 4, none⟩ = some (.int .i64 a1) ∧ w'.cell? ⟨ad154.block, ad154.off + 1, none⟩ = some (.string (rdOf ByteArray.empty t145 1))) (ds := []) (bl 32 0) (by kernel_rfl) rfl (by kernel_rfl) ⟨(kCe BK148.out 0).trans rfl, (kCe BK148.out 1).trans rfl, (kCe BK148.out 2).trans rfl, (kCe BK148.out 3).trans rfl, (kCe BK148.out 4).trans rfl, hx154_0⟩ (fun hHeld => ?_); refine with_tabW r8_rule.tab9 r8_rule.bits9 (fun HT_ HW_ => ?_)
      generalize wr.drew = w33 at HO_6 HO_8 BK144 BK148 HB hx154_0 hHeld ⊢
      refine pV 0 33 (bl 32 1) HT_.out ?_
      refine tV 1 34 (bl 32 3) HT_.out HW_.out hHeld ?_ (hv := by rintro w' ⟨s0, s1, s2, s3, s4, s5⟩; go_simp; with_reducible rfl)
      refine pV 2 35 (bl 32 7) HT_.out ?_
      refine pV 3 36 (bl 32 15) HT_.out ?_
      refine pV 4 37 (bl 32 31) HT_.out ?_
      refine tV 5 38 (bl 32 63) HT_.out HW_.out hHeld ?_ (hv := by rintro w' ⟨s0, s1, s2, s3, s4, s5⟩; go_simp; with_reducible rfl)
      refine pV 6 39 (bl 32 127) HT_.out ?_
      refine pV 7 40 (bl 32 255) HT_.out ?_
      refine pV 8 41 (bl 32 511) HT_.out ?_
      refine pV 9 42 (bl 32 1023) HT_.out ?_
      refine pV 10 43 (bl 32 2047) HT_.out ?_
      refine pV 11 44 (bl 32 4095) HT_.out ?_
      refine pV 12 45 (bl 32 8191) HT_.out ?_
      refine pV 13 46 (bl 32 16383) HT_.out ?_
      refine pV 14 47 (bl 32 32767) HT_.out ?_
      refine tV 15 48 (bl 32 65535) HT_.out HW_.out hHeld ?_ (hv := by rintro w' ⟨s0, s1, s2, s3, s4, s5⟩; go_simp; with_reducible rfl)
      refine pV 16 49 (bl 32 131071) HT_.out ?_
      refine pV 17 50 (bl 32 262143) HT_.out ?_
      refine pV 18 51 (bl 32 524287) HT_.out ?_
      refine pV 19 52 (bl 32 1048575) HT_.out ?_
      refine pV 20 53 (bl 32 2097151) HT_.out ?_
      refine pV 21 54 (bl 32 4194303) HT_.out ?_
      refine pV 22 55 (bl 32 8388607) HT_.out ?_
      refine pV 23 56 (bl 32 16777215) HT_.out ?_
      refine pV 24 57 (bl 32 33554431) HT_.out ?_
      refine pV 26 59 (bl 32 100663295) HT_.out ?_
      refine pV 27 60 (bl 32 234881023) HT_.out ?_
      refine tV 25 58 (bl 32 268435455) HT_.out HW_.out hHeld ?_ (hv := by rintro w' ⟨s0, s1, s2, s3, s4, s5⟩; go_simp; with_reducible rfl)
      refine tV 28 61 (bl 32 536870911) HT_.out HW_.out hHeld ?_ (hv := by rintro w' ⟨s0, s1, s2, s3, s4, s5⟩; go_simp; with_reducible rfl)
      refine one_ (i := 29) (N := some 62) (bl 32 1073741823) rfl rfl (one_of HT_.out (by kernel_rfl)) (by decide) (fun K hK => ?_)
      refine goes_ Try.func87 (by kernel_rfl) rfl #[.int .i64 x149000_1, .string (rdOf ByteArray.empty t145 1)] (by rfl) rfl rfl (by (try simp only [qM0, qM1, qM2]); first | done | rfl | (simp only [qD0, qD1]; rfl)) ?_
      with_reducible refine (r8_left.calls k1 x149000_1 (rdOf ByteArray.empty t145 1) t155 _ A32.out).mono ?_
      rintro e w35 ⟨rfl, hb⟩
      have HS5_ := (hb.cell (World.block_lt_of_cell? _ _ (hHeld.2.2.2.2.2))).trans (hHeld.2.2.2.2.2)
      refine ⟨_, rfl, ?_⟩
      have n0_ := aK (Kd.R_below (by (with_reducible repeat (first | apply Kd.R_alloc | apply Kd.R_drewN | apply Kd.R_drew)); exact HO_6.out) hb)
      have n1_ := aK (Kd.R_below (by (with_reducible repeat (first | apply Kd.R_alloc | apply Kd.R_drewN | apply Kd.R_drew)); exact HO_8.out) hb)
      have n2_ := aK (kBe (g := gb144) (o := .cells #[.int .i64 0, .string (⟨#[]⟩ : ByteArray), .string (⟨#[]⟩ : ByteArray), .int .i64 0, .int .i64 0] 33 (0, 0)) (by (with_reducible repeat (first | refine kDN ?_ _ | refine kDr ?_ | refine kAl ?_ _)); exact BK144.out) hb)
      have n3_ := aK (kBe (g := gb148) (o := .cells #[.int .i64 x149000_1, .string (⟨#[]⟩ : ByteArray), .string (⟨#[]⟩ : ByteArray), .int .i64 0, .int .i64 a1] 33 (0, 0)) (by (with_reducible repeat (first | refine kDN ?_ _ | refine kDr ?_ | refine kAl ?_ _)); exact BK148.out) hb)
      have n4_ := aK (bSp (by repeat (first | (with_reducible first | exact HB.out | apply bAl | apply pbD | apply bD1 | refine bSt ?_ GE144.out | refine bSt ?_ GE148.out) | exact HB.out)) hb)
      clear HO_6
      clear HO_8
      clear BK144
      clear BK148
      clear HB
      have HO_6 := n0_
      have HO_8 := n1_
      have BK144 := n2_
      have BK148 := n3_
      have HB := n4_
      clear n0_ n1_ n2_ n3_ n4_
      (try clear hb)
      (try clear hb2)
      (try clear hk)
      (try clear hi)
      refine hK.out _ _ ⟨(kCe BK148.out 0).trans rfl, (kCe BK148.out 1).trans rfl, (kCe BK148.out 2).trans rfl, (kCe BK148.out 3).trans rfl, (kCe BK148.out 4).trans rfl, HS5_⟩ (fun hHeld => ?_)
      clear hK K
      refine norm_ (a' := ?_) ?_ ?_
      rotate_left
      ·
       show Act.put _ (some 62) _ = _
       simp only [Act.put, qSa, qS0, qS1, i64_w, i32_w]
       rfl
      refine pV 30 63 (bl 32 2147483647) HT_.out ?_
      refine pV 31 64 (bl 32 4294967295) HT_.out ?_
      refine done_ (done_of HT_.out (by kernel_rfl)) ?_
      try go_wp2
      go_meet
      case rel => exact ⟨_, (!t155), (by first | rfl | (simp; done) | (simp [*]; done)), H', ⟨by have := HK1.out; first | omega | exact Nat.le_refl _⟩, ⟨by (with_reducible repeat (first | apply Kd.R_alloc | apply Kd.R_drewN | apply Kd.R_drew)); exact Kd.R_mono HO_6.out (fun _ hk => trivial)⟩, ⟨by (with_reducible repeat (first | refine kDN ?_ _ | refine kDr ?_ | refine kAl ?_ _)); exact BK144.out⟩, ⟨by (with_reducible repeat (first | refine kDN ?_ _ | refine kDr ?_ | refine kAl ?_ _)); exact BK148.out⟩, ⟨by repeat (first | (with_reducible first | exact HB.out | apply bAl | apply pbD | apply bD1 | refine bSt ?_ GE144.out | refine bSt ?_ GE148.out) | exact HB.out)⟩⟩
     rw [if_pos c25] at H
     have c25b0 : (x149000_1 == 0) = true := beq_iff_eq.mpr c25
     have c25b1 : (x149000_1 != 0) = false := bne_eq_false_iff_eq.mpr c25
     clear c25
     (first | rw [c25b0] | (simp only [i64_w, i32_w]; rw [c25b0]) | skip)
     have H' := aK H
     clear H
     try go_wp2
     have n0_ := aK (Kd.R_drew HO_6.out)
     have n1_ := aK (Kd.R_drew HO_8.out)
     have n2_ := aK (kDr BK144.out)
     have n3_ := aK (kDr BK148.out)
     have n4_ := aK (bD1 HB.out)
     clear HO_6
     clear HO_8
     clear BK144
     clear BK148
     clear HB
     have HO_6 := n0_
     have HO_8 := n1_
     have BK144 := n2_
     have BK148 := n3_
     have HB := n4_
     clear n0_ n1_ n2_ n3_ n4_
     refine start_ (n := 32) (S := fun w' => w'.cell? ⟨gb148, 0, none⟩ = some (.int .i64 x149000_1) ∧ w'.cell? ⟨gb148, 1, none⟩ = some (.string (⟨#[]⟩ : ByteArray)) ∧ w'.cell? ⟨gb148, 2, none⟩ = some (.string (⟨#[]⟩ : ByteArray)) ∧ w'.cell? ⟨gb148, 3, none⟩ = some (.int .i64 0) ∧ w'.cell? ⟨gb148, 4, none⟩ = some (.int .i64 a1)) (ds := []) (bl 32 0) (by kernel_rfl) rfl (by kernel_rfl) ⟨(kCe BK148.out 0).trans rfl, (kCe BK148.out 1).trans rfl, (kCe BK148.out 2).trans rfl, (kCe BK148.out 3).trans rfl, (kCe BK148.out 4).trans rfl⟩ (fun hHeld => ?_); refine with_tabW r8_rule.tab9 r8_rule.bits9 (fun HT_ HW_ => ?_)
     generalize wr.drew = w26 at HO_6 HO_8 BK144 BK148 HB hHeld ⊢
     refine pV 0 33 (bl 32 1) HT_.out ?_
     refine tV 1 34 (bl 32 3) HT_.out HW_.out hHeld ?_ (hv := by rintro w' ⟨s0, s1, s2, s3, s4⟩; go_simp; with_reducible rfl)
     refine pV 2 35 (bl 32 7) HT_.out ?_
     refine pV 3 36 (bl 32 15) HT_.out ?_
     refine pU 4 37 (bl 32 31) HT_.out ?_
     refine pU 5 38 (bl 32 63) HT_.out ?_
     refine pU 6 39 (bl 32 127) HT_.out ?_
     refine pU 7 40 (bl 32 255) HT_.out ?_
     refine pU 8 41 (bl 32 511) HT_.out ?_
     refine pU 9 42 (bl 32 1023) HT_.out ?_
     refine pU 10 43 (bl 32 2047) HT_.out ?_
     refine pU 11 44 (bl 32 4095) HT_.out ?_
     refine pV 12 45 (bl 32 8191) HT_.out ?_
     refine pV 13 46 (bl 32 16383) HT_.out ?_
     refine pU 14 47 (bl 32 32767) HT_.out ?_
     refine pU 15 48 (bl 32 65535) HT_.out ?_
     refine pU 16 49 (bl 32 131071) HT_.out ?_
     refine pU 17 50 (bl 32 262143) HT_.out ?_
     refine pU 18 51 (bl 32 524287) HT_.out ?_
     refine pU 19 52 (bl 32 1048575) HT_.out ?_
     refine pU 20 53 (bl 32 2097151) HT_.out ?_
     refine pU 21 54 (bl 32 4194303) HT_.out ?_
     refine pV 22 55 (bl 32 8388607) HT_.out ?_
     refine pV 23 56 (bl 32 16777215) HT_.out ?_
     refine pU 24 57 (bl 32 33554431) HT_.out ?_
     refine pU 25 58 (bl 32 67108863) HT_.out ?_
     refine pU 26 59 (bl 32 134217727) HT_.out ?_
     refine pU 27 60 (bl 32 268435455) HT_.out ?_
     refine pU 28 61 (bl 32 536870911) HT_.out ?_
     refine pU 29 62 (bl 32 1073741823) HT_.out ?_
     refine pU 30 63 (bl 32 2147483647) HT_.out ?_
     refine pV 31 64 (bl 32 4294967295) HT_.out ?_
     refine done_ (done_of HT_.out (by kernel_rfl)) ?_
     try go_wp2
     go_meet
     case rel => exact ⟨_, (true), (by first | rfl | (simp; done) | (simp [*]; done)), H', ⟨by have := HK1.out; first | omega | exact Nat.le_refl _⟩, ⟨by (with_reducible repeat (first | apply Kd.R_alloc | apply Kd.R_drewN | apply Kd.R_drew)); exact Kd.R_mono HO_6.out (fun _ hk => trivial)⟩, ⟨by (with_reducible repeat (first | refine kDN ?_ _ | refine kDr ?_ | refine kAl ?_ _)); exact BK144.out⟩, ⟨by (with_reducible repeat (first | refine kDN ?_ _ | refine kDr ?_ | refine kAl ?_ _)); exact BK148.out⟩, ⟨by repeat (first | (with_reducible first | exact HB.out | apply bAl | apply pbD | apply bD1 | refine bSt ?_ GE144.out | refine bSt ?_ GE148.out) | exact HB.out)⟩⟩
    case rest =>
     clear HC23
     try clear p1
     try clear q1
     try clear hx1
     try clear qi1
     try clear p2
     try clear c4
     try clear c5
     try clear c8
     try clear p16
     try clear q16
     try clear hx16
     try clear qi16
     try clear c45
     try clear c45b0
     try clear c46
     try clear c46b0
     try clear c46b1
     try clear c47
     try clear c54
     try clear c54b0
     try clear c54b1
     try clear hx160_0
     try clear p160
     try clear q160
     obtain ⟨kq, x64_22, rfl, HA, HJ22, HO_6, BK144, BK148, HB⟩ := hcut
     cases kq with
     | zero => exact absurd HA.out (by simp [r8_rule.j1])
     | succ kj22 =>
      have H := HA.out
      clear HA
      simp only [r8_rule.j1] at H
      by_cases c59 : x64_22 = true
      rotate_left
      ·
       replace c59 := Bool.eq_false_iff.mpr c59
       subst c59
       have H1 : (if 2 < (t145.length : Int) then ((r2_Parse.f kj22 (rdOf ByteArray.empty t145 2)).bind fun bt163 => (if bt163.2 ≥ 0 then (some (x149000_1, (⟨#[]⟩ : ByteArray), (⟨#[]⟩ : ByteArray), 0, a1, false)) else (if 1 < (t145.length : Int) then (if x149000_1 ≤ 5 then (if 3 < (t145.length : Int) then ((r8_digits.f kj22 (rdOf ByteArray.empty t145 3)).bind fun t167 => (some (x149000_1, rdOf ByteArray.empty t145 1, bt163.1, t167, a1, decide (t167 ≥ 0)))) else (none)) else (some (x149000_1, rdOf ByteArray.empty t145 1, bt163.1, 0, a1, decide (0 ≥ 0)))) else (none)))) else (none)) = some (r1, r2, r3, r4, r5, r6) := by rw [if_neg (show ¬ (false = true) by decide)] at H; exact H
       clear H
       have H := H1
       clear H1
       by_cases c63 : 2 < (t145.length : Int)
       rotate_left
       ·
        rw [if_neg c63] at H
        exact absurd H (by simp)
       rw [if_pos c63] at H
       have c63b0 : decide (2 < (t145.length : Int)) = true := decide_eq_true c63
       have c63b1 : decide (2 < t145.length) = true := decide_eq_true (by omega)
       clear c63
       replace H := oB H
       obtain ⟨⟨t163, t164⟩, A640, H⟩ := H
       try dsimp only at H
       have A64 := aK A640
       clear A640
       by_cases c65 : t164 ≥ 0
       rotate_left
       ·
        rw [if_neg c65] at H
        have c65b0 : decide (0 ≤ t164) = false := decide_eq_false c65
        clear c65
        by_cases c71 : 1 < (t145.length : Int)
        rotate_left
        ·
         rw [if_neg c71] at H
         exact absurd H (by simp)
        rw [if_pos c71] at H
        have c71b0 : decide (1 < (t145.length : Int)) = true := decide_eq_true c71
        have c71b1 : decide (1 < t145.length) = true := decide_eq_true (by omega)
        clear c71
        by_cases c72 : x149000_1 ≤ 5
        rotate_left
        ·
         rw [if_neg c72] at H
         have c72b0 : decide (x149000_1 ≤ 5) = false := decide_eq_false c72
         clear c72
         simp only [Option.some.injEq, Prod.mk.injEq] at H
         obtain ⟨rfl, rfl, rfl, rfl, rfl, rfl⟩ := H
         obtain ⟨Ao86, co86, eo86⟩ := Kd.R_slice HO_6.out
         subst eo86
         have p162 : 0 ≤ (2 : Int) := (by omega)
         have q162 : 2 < (t145.length : Int) := odT (by first | (with_reducible assumption) | assumption)
         obtain ⟨ad162, e162, hx162_0⟩ := Kd.at_string (Kd.R_reads' HO_6.out).2.2 2 p162 q162
         cases e162
         (try simp only [show (2 : Int).toNat = 2 from rfl, Nat.reduceMul, Nat.reduceEqDiff, Go.Addr.add, ↓reduceIte] at hx162_0)
         have qi162 : (2 < t145.length) = True := eq_true (by omega)
         (try rw [show ((2 : Int)).toNat = 2 from rfl] at hx162_0)
         replace p162 := eq_true p162
         replace q162 := eq_true q162
         try go_wp2_with (first | ((with_reducible refine gate_callee (f := 92) rfl ?_); refine goesL_ (some 70) rfl rfl Try.func92 (by kernel_rfl) rfl #[.string (rdOf ByteArray.empty t145 2)] rfl (by (try simp only [qM0, qM1, qM2]); first | done | rfl | (simp only [qD0, qD1]; rfl)) ?_; (with_reducible refine (r2_Parse.calls kj22 (rdOf ByteArray.empty t145 2) t163 t164 _ A64.out).mono ?_); rintro e w87 ⟨rfl, hb⟩; refine ⟨_, rfl, ?_⟩; have n0_ := aK (Kd.R_below (by (with_reducible repeat (first | apply Kd.R_alloc | apply Kd.R_drewN | apply Kd.R_drew)); exact HO_6.out) hb); have n1_ := aK (kBe (g := gb144) (o := .cells #[.int .i64 0, .string (⟨#[]⟩ : ByteArray), .string (⟨#[]⟩ : ByteArray), .int .i64 0, .int .i64 0] 33 (0, 0)) (by (with_reducible repeat (first | refine kDN ?_ _ | refine kDr ?_ | refine kAl ?_ _)); exact BK144.out) hb); have n2_ := aK (kBe (g := gb148) (o := .cells #[.int .i64 x149000_1, .string (⟨#[]⟩ : ByteArray), .string (⟨#[]⟩ : ByteArray), .int .i64 0, .int .i64 a1] 33 (0, 0)) (by (with_reducible repeat (first | refine kDN ?_ _ | refine kDr ?_ | refine kAl ?_ _)); exact BK148.out) hb); have n3_ := aK (bSp (by repeat (first | (with_reducible first | exact HB.out | apply bAl | apply pbD | apply bD1 | refine bSt ?_ GE144.out | refine bSt ?_ GE148.out) | exact HB.out)) hb); clear HO_6; clear BK144; clear BK148; clear HB; have HO_6 := n0_; have BK144 := n1_; have BK148 := n2_; have HB := n3_; clear n0_ n1_ n2_ n3_; (try clear hb); (try clear hb2); (try clear hk); (try clear hi); have p165 : 0 ≤ (1 : Int) := (by omega); have q165 : 1 < (t145.length : Int) := odT (by first | (with_reducible assumption) | assumption); obtain ⟨ad165, e165, hx165_0⟩ := Kd.at_string (Kd.R_reads' HO_6.out).2.2 1 p165 q165; obtain rfl : ad162 = ad165 := (by injection e165); (try simp only [show (1 : Int).toNat = 1 from rfl, Nat.reduceMul, Nat.reduceEqDiff, Go.Addr.add, ↓reduceIte] at hx165_0); have qi165 : (1 < t145.length) = True := eq_true (by omega); (try rw [show ((1 : Int)).toNat = 1 from rfl] at hx165_0); replace p165 := eq_true p165; replace q165 := eq_true q165; have hnb88 := NB148_144.out; have hnc88 := NB144_148.out; have hcz89_0 : w87.cell? ⟨gb148, 0, none⟩ = some (.int .i64 x149000_1) := (kCe BK148.out 0).trans rfl; have hcz89_1 : w87.cell? ⟨gb148, 1, none⟩ = some (.string (⟨#[]⟩ : ByteArray)) := (kCe BK148.out 1).trans rfl; have hcz89_2 : w87.cell? ⟨gb148, 2, none⟩ = some (.string (⟨#[]⟩ : ByteArray)) := (kCe BK148.out 2).trans rfl; have hcz89_3 : w87.cell? ⟨gb148, 3, none⟩ = some (.int .i64 0) := (kCe BK148.out 3).trans rfl; have hcz89_4 : w87.cell? ⟨gb148, 4, none⟩ = some (.int .i64 a1) := (kCe BK148.out 4).trans rfl; have hfz89_0 := bFz BK148.out 0; have hfz89_1 := bFz BK148.out 1; have hfz89_2 := bFz BK148.out 2; have hfz89_3 := bFz BK148.out 3; have hfz89_4 := bFz BK148.out 4))
         have n0_ : Aside0 (Kd.R Kd.string 9 ((w87.setCell ⟨gb148, 1, none⟩ (.string (rdOf ByteArray.empty t145 1))).setCell ⟨gb148, 2, none⟩ (.string t163)) w.heap.size (fun _ => True) (.slice (some ad162) t145.length co86) t145) := ⟨by (with_reducible repeat (first | apply Kd.R_alloc | apply Kd.R_drewN | apply Kd.R_drew)); exact Kd.R_mono (Kd.R_far (p := ⟨gb148, 2, none⟩) (Kd.R_far (p := ⟨gb148, 1, none⟩) (Kd.R_types HO_6.out BK148.out (by decide)) (fun _ hk => hk.2) (.string (rdOf ByteArray.empty t145 1))) (fun _ hk => hk.2) (.string t163)) (fun _ hk => trivial)⟩
         have n1_ : Aside0 (((w87.setCell ⟨gb148, 1, none⟩ (.string (rdOf ByteArray.empty t145 1))).setCell ⟨gb148, 2, none⟩ (.string t163)).heap[gb144]? = some (.cells #[.int .i64 0, .string (⟨#[]⟩ : ByteArray), .string (⟨#[]⟩ : ByteArray), .int .i64 0, .int .i64 0] 33 (0, 0))) := ⟨by (with_reducible repeat (first | refine kDN ?_ _ | refine kDr ?_ | refine kAl ?_ _)); refine blk_far ?_ NB144_148.out _; (with_reducible repeat (first | refine kDN ?_ _ | refine kDr ?_ | refine kAl ?_ _)); refine blk_far ?_ NB144_148.out _; (with_reducible repeat (first | refine kDN ?_ _ | refine kDr ?_ | refine kAl ?_ _)); exact BK144.out⟩
         have n2_ : Aside0 (((w87.setCell ⟨gb148, 1, none⟩ (.string (rdOf ByteArray.empty t145 1))).setCell ⟨gb148, 2, none⟩ (.string t163)).heap[gb148]? = some (.cells #[.int .i64 x149000_1, .string (rdOf ByteArray.empty t145 1), .string t163, .int .i64 0, .int .i64 a1] 33 (0, 0))) := ⟨by (with_reducible repeat (first | refine kDN ?_ _ | refine kDr ?_ | refine kAl ?_ _)); refine blk_put (cs := #[.int .i64 x149000_1, .string (rdOf ByteArray.empty t145 1), .string (⟨#[]⟩ : ByteArray), .int .i64 0, .int .i64 a1]) ?_ 2 _ rfl; (with_reducible repeat (first | refine kDN ?_ _ | refine kDr ?_ | refine kAl ?_ _)); refine blk_put (cs := #[.int .i64 x149000_1, .string (⟨#[]⟩ : ByteArray), .string (⟨#[]⟩ : ByteArray), .int .i64 0, .int .i64 a1]) ?_ 1 _ rfl; (with_reducible repeat (first | refine kDN ?_ _ | refine kDr ?_ | refine kAl ?_ _)); exact BK148.out⟩
         have n3_ : Aside0 (Below w.heap.size w ((w87.setCell ⟨gb148, 1, none⟩ (.string (rdOf ByteArray.empty t145 1))).setCell ⟨gb148, 2, none⟩ (.string t163))) := ⟨by repeat (first | (with_reducible first | exact HB.out | apply bAl | apply pbD | apply bD1 | refine bSt ?_ GE144.out | refine bSt ?_ GE148.out) | exact HB.out)⟩
         (try clear HO_6)
         (try clear BK144)
         (try clear BK148)
         (try clear HB)
         repeat rw [setCell_drewN]
         generalize ((w87.setCell ⟨gb148, 1, none⟩ (.string (rdOf ByteArray.empty t145 1))).setCell ⟨gb148, 2, none⟩ (.string t163)) = w90 at n0_ n1_ n2_ n3_ ⊢
         have HO_6 := n0_
         have BK144 := n1_
         have BK148 := n2_
         have HB := n3_
         clear n0_ n1_ n2_ n3_
         have n0_ := aK (Kd.R_drew HO_6.out)
         have n1_ := aK (kDr BK144.out)
         have n2_ := aK (kDr BK148.out)
         have n3_ := aK (bD1 HB.out)
         clear HO_6
         clear BK144
         clear BK148
         clear HB
         have HO_6 := n0_
         have BK144 := n1_
         have BK148 := n2_
         have HB := n3_
         clear n0_ n1_ n2_ n3_
         refine start_ (n := 6) (S := fun w' => w'.cell? ⟨gb148, 0, none⟩ = some (.int .i64 x149000_1) ∧ w'.cell? ⟨gb148, 1, none⟩ = some (.string (rdOf ByteArray.empty t145 1)) ∧ w'.cell? ⟨gb148, 2, none⟩ = some (.string t163) ∧ w'.cell? ⟨gb148, 3, none⟩ = some (.int .i64 0) ∧ w'.cell? ⟨gb148, 4, none⟩ = some (.int .i64 a1)) (ds := []) (bl 6 0) (by kernel_rfl) rfl (by kernel_rfl) ⟨(kCe BK148.out 0).trans rfl, (kCe BK148.out 1).trans rfl, (kCe BK148.out 2).trans rfl, (kCe BK148.out 3).trans rfl, (kCe BK148.out 4).trans rfl⟩ (fun hHeld => ?_)
         generalize w90.drew = w91 at HO_6 BK144 BK148 HB hHeld ⊢
         refine pure_ (i := 1) (N := some 91) (v := ?_) (a' := ?_) (bl 6 2) rfl rfl (by kernel_rfl) (fun _ _ _ h => h) (Or.inl ⟨by rfl, ?_⟩) ?_ ?_
         rotate_left
         ·
          intro w'
          go_simp
          with_reducible rfl
         rotate_left
         ·
          simp only [Act.put, qSa, qS0, qS1, i64_w, i32_w]
          rfl
         refine take_ (i := 0) (N := some 90) (v := ?_) (a' := ?_) (bl 6 3) rfl rfl (by kernel_rfl) (fun _ _ _ h => h) (Or.inl ⟨by rfl, ?_⟩) hHeld ?_ ?_
         rotate_left
         ·
          rintro w' ⟨s0, s1, s2, s3, s4⟩
          go_simp
          with_reducible rfl
         rotate_left
         ·
          simp only [Act.put, qSa, qS0, qS1, i64_w, i32_w]
          rfl
         refine take_ (i := 2) (N := some 92) (v := ?_) (a' := ?_) (bl 6 7) rfl rfl (by kernel_rfl) (fun _ _ _ h => h) (Or.inl ⟨by rfl, ?_⟩) hHeld ?_ ?_
         rotate_left
         ·
          rintro w' ⟨s0, s1, s2, s3, s4⟩
          go_simp
          with_reducible rfl
         rotate_left
         ·
          simp only [Act.put, qSa, qS0, qS1, i64_w, i32_w]
          rfl
         refine pure_ (i := 3) (N := some 93) (v := ?_) (a' := ?_) (bl 6 15) rfl rfl (by kernel_rfl) (fun _ _ _ h => h) (Or.inl ⟨by rfl, ?_⟩) ?_ ?_
         rotate_left
         ·
          intro w'
          go_simp
          with_reducible rfl
         rotate_left
         ·
          simp only [Act.put, qSa, qS0, qS1, i64_w, i32_w]
          rfl
         refine one_ (i := 4) (N := none) (bl 6 31) rfl rfl (by kernel_rfl) (by decide) (fun K hK => ?_)
         have hs92 : w91.cell? ⟨gb144, 0, none⟩ = some (.int .i64 0) := (kCe BK144.out 0).trans rfl
         have hfs92 := bFz BK144.out 0
         have hns92_1 := NB148_144.out
         have hms92_1 := NB144_148.out
         have hs93 : w91.cell? ⟨gb144, 1, none⟩ = some (.string (⟨#[]⟩ : ByteArray)) := (kCe BK144.out 1).trans rfl
         have hfs93 := bFz BK144.out 1
         have hns93_1 := NB148_144.out
         have hms93_1 := NB144_148.out
         have hs94 : w91.cell? ⟨gb144, 2, none⟩ = some (.string (⟨#[]⟩ : ByteArray)) := (kCe BK144.out 2).trans rfl
         have hfs94 := bFz BK144.out 2
         have hns94_1 := NB148_144.out
         have hms94_1 := NB144_148.out
         have hs95 : w91.cell? ⟨gb144, 3, none⟩ = some (.int .i64 0) := (kCe BK144.out 3).trans rfl
         have hfs95 := bFz BK144.out 3
         have hns95_1 := NB148_144.out
         have hms95_1 := NB144_148.out
         have hs96 : w91.cell? ⟨gb144, 4, none⟩ = some (.int .i64 0) := (kCe BK144.out 4).trans rfl
         have hfs96 := bFz BK144.out 4
         have hns96_1 := NB148_144.out
         have hms96_1 := NB144_148.out
         refine skip_ (w1 := ?_) (by rfl) rfl ?_ ?_
         rotate_left
         ·
          go_simp
          rfl
         refine hK.out _ _ ⟨((cell_far (p := ⟨gb144, _, none⟩) NB148_144.out _).trans (((cell_far (p := ⟨gb144, _, none⟩) NB148_144.out _).trans (((cell_far (p := ⟨gb144, _, none⟩) NB148_144.out _).trans (((cell_far (p := ⟨gb144, _, none⟩) NB148_144.out _).trans (((cell_far (p := ⟨gb144, _, none⟩) NB148_144.out _).trans (hHeld.1)))))))))), ((cell_far (p := ⟨gb144, _, none⟩) NB148_144.out _).trans (((cell_far (p := ⟨gb144, _, none⟩) NB148_144.out _).trans (((cell_far (p := ⟨gb144, _, none⟩) NB148_144.out _).trans (((cell_far (p := ⟨gb144, _, none⟩) NB148_144.out _).trans (((cell_far (p := ⟨gb144, _, none⟩) NB148_144.out _).trans (hHeld.2.1)))))))))), ((cell_far (p := ⟨gb144, _, none⟩) NB148_144.out _).trans (((cell_far (p := ⟨gb144, _, none⟩) NB148_144.out _).trans (((cell_far (p := ⟨gb144, _, none⟩) NB148_144.out _).trans (((cell_far (p := ⟨gb144, _, none⟩) NB148_144.out _).trans (((cell_far (p := ⟨gb144, _, none⟩) NB148_144.out _).trans (hHeld.2.2.1)))))))))), ((cell_far (p := ⟨gb144, _, none⟩) NB148_144.out _).trans (((cell_far (p := ⟨gb144, _, none⟩) NB148_144.out _).trans (((cell_far (p := ⟨gb144, _, none⟩) NB148_144.out _).trans (((cell_far (p := ⟨gb144, _, none⟩) NB148_144.out _).trans (((cell_far (p := ⟨gb144, _, none⟩) NB148_144.out _).trans (hHeld.2.2.2.1)))))))))), ((cell_far (p := ⟨gb144, _, none⟩) NB148_144.out _).trans (((cell_far (p := ⟨gb144, _, none⟩) NB148_144.out _).trans (((cell_far (p := ⟨gb144, _, none⟩) NB148_144.out _).trans (((cell_far (p := ⟨gb144, _, none⟩) NB148_144.out _).trans (((cell_far (p := ⟨gb144, _, none⟩) NB148_144.out _).trans (hHeld.2.2.2.2))))))))))⟩ (fun hHeld => ?_)
         clear hK K
         refine pure_ (i := 5) (N := some 5) (v := ?_) (a' := ?_) (bl 6 63) rfl rfl (by kernel_rfl) (fun _ _ _ h => h) (Or.inl ⟨by rfl, ?_⟩) ?_ ?_
         rotate_left
         ·
          intro w'
          go_simp
          with_reducible rfl
         rotate_left
         ·
          simp only [Act.put, qSa, qS0, qS1, i64_w, i32_w]
          rfl
         refine done_ (by kernel_rfl) ?_
         try go_wp2
         refine bodyPost_ret (results_ct rfl _ _ gb144 33 #[.int .i64 x149000_1, .string (rdOf ByteArray.empty t145 1), .string t163, .int .i64 0, .int .i64 a1] (0, 0) _ rfl (by (with_reducible repeat (first | refine kDN ?_ _ | refine kDr ?_ | refine kAl ?_ _)); refine blk_put (cs := #[.int .i64 x149000_1, .string (rdOf ByteArray.empty t145 1), .string t163, .int .i64 0, .int .i64 0]) ?_ 4 _ rfl; (with_reducible repeat (first | refine kDN ?_ _ | refine kDr ?_ | refine kAl ?_ _)); refine blk_put (cs := #[.int .i64 x149000_1, .string (rdOf ByteArray.empty t145 1), .string t163, .int .i64 0, .int .i64 0]) ?_ 3 _ rfl; (with_reducible repeat (first | refine kDN ?_ _ | refine kDr ?_ | refine kAl ?_ _)); refine blk_put (cs := #[.int .i64 x149000_1, .string (rdOf ByteArray.empty t145 1), .string (⟨#[]⟩ : ByteArray), .int .i64 0, .int .i64 0]) ?_ 2 _ rfl; (with_reducible repeat (first | refine kDN ?_ _ | refine kDr ?_ | refine kAl ?_ _)); refine blk_put (cs := #[.int .i64 x149000_1, .string (⟨#[]⟩ : ByteArray), .string (⟨#[]⟩ : ByteArray), .int .i64 0, .int .i64 0]) ?_ 1 _ rfl; (with_reducible repeat (first | refine kDN ?_ _ | refine kDr ?_ | refine kAl ?_ _)); refine blk_put (cs := #[.int .i64 0, .string (⟨#[]⟩ : ByteArray), .string (⟨#[]⟩ : ByteArray), .int .i64 0, .int .i64 0]) ?_ 0 _ rfl; (with_reducible repeat (first | refine kDN ?_ _ | refine kDr ?_ | refine kAl ?_ _)); exact BK144.out) Try.underlying33 rfl (by kernel_rfl)) rfl ?_
         exact ⟨by first | rfl | (simp [eWn, eWs] <;> rfl) | (simp [*, eWn, eWs] <;> rfl), by repeat (first | (with_reducible first | exact HB.out | apply bAl | apply pbD | apply bD1 | refine bSt ?_ GE144.out | refine bSt ?_ GE148.out) | exact HB.out)⟩
        rw [if_pos c72] at H
        have c72b0 : decide (x149000_1 ≤ 5) = true := decide_eq_true c72
        clear c72
        by_cases c73 : 3 < (t145.length : Int)
        rotate_left
        ·
         rw [if_neg c73] at H
         exact absurd H (by simp)
        rw [if_pos c73] at H
        have c73b0 : decide (3 < (t145.length : Int)) = true := decide_eq_true c73
        have c73b1 : decide (3 < t145.length) = true := decide_eq_true (by omega)
        clear c73
        replace H := oB H
        obtain ⟨t167, A740, H⟩ := H
        try dsimp only at H
        have A74 := aK A740
        clear A740
        simp only [Option.some.injEq, Prod.mk.injEq] at H
        obtain ⟨rfl, rfl, rfl, rfl, rfl, rfl⟩ := H
        obtain ⟨Ao75, co75, eo75⟩ := Kd.R_slice HO_6.out
        subst eo75
        have p162 : 0 ≤ (2 : Int) := (by omega)
        have q162 : 2 < (t145.length : Int) := odT (by first | (with_reducible assumption) | assumption)
        obtain ⟨ad162, e162, hx162_0⟩ := Kd.at_string (Kd.R_reads' HO_6.out).2.2 2 p162 q162
        cases e162
        (try simp only [show (2 : Int).toNat = 2 from rfl, Nat.reduceMul, Nat.reduceEqDiff, Go.Addr.add, ↓reduceIte] at hx162_0)
        have qi162 : (2 < t145.length) = True := eq_true (by omega)
        (try rw [show ((2 : Int)).toNat = 2 from rfl] at hx162_0)
        replace p162 := eq_true p162
        replace q162 := eq_true q162
        try go_wp2_with (first | ((with_reducible refine gate_callee (f := 92) rfl ?_); refine goesL_ (some 70) rfl rfl Try.func92 (by kernel_rfl) rfl #[.string (rdOf ByteArray.empty t145 2)] rfl (by (try simp only [qM0, qM1, qM2]); first | done | rfl | (simp only [qD0, qD1]; rfl)) ?_; (with_reducible refine (r2_Parse.calls kj22 (rdOf ByteArray.empty t145 2) t163 t164 _ A64.out).mono ?_); rintro e w76 ⟨rfl, hb⟩; refine ⟨_, rfl, ?_⟩; have n0_ := aK (Kd.R_below (by (with_reducible repeat (first | apply Kd.R_alloc | apply Kd.R_drewN | apply Kd.R_drew)); exact HO_6.out) hb); have n1_ := aK (kBe (g := gb144) (o := .cells #[.int .i64 0, .string (⟨#[]⟩ : ByteArray), .string (⟨#[]⟩ : ByteArray), .int .i64 0, .int .i64 0] 33 (0, 0)) (by (with_reducible repeat (first | refine kDN ?_ _ | refine kDr ?_ | refine kAl ?_ _)); exact BK144.out) hb); have n2_ := aK (kBe (g := gb148) (o := .cells #[.int .i64 x149000_1, .string (⟨#[]⟩ : ByteArray), .string (⟨#[]⟩ : ByteArray), .int .i64 0, .int .i64 a1] 33 (0, 0)) (by (with_reducible repeat (first | refine kDN ?_ _ | refine kDr ?_ | refine kAl ?_ _)); exact BK148.out) hb); have n3_ := aK (bSp (by repeat (first | (with_reducible first | exact HB.out | apply bAl | apply pbD | apply bD1 | refine bSt ?_ GE144.out | refine bSt ?_ GE148.out) | exact HB.out)) hb); clear HO_6; clear BK144; clear BK148; clear HB; have HO_6 := n0_; have BK144 := n1_; have BK148 := n2_; have HB := n3_; clear n0_ n1_ n2_ n3_; (try clear hb); (try clear hb2); (try clear hk); (try clear hi); have p165 : 0 ≤ (1 : Int) := (by omega); have q165 : 1 < (t145.length : Int) := odT (by first | (with_reducible assumption) | assumption); obtain ⟨ad165, e165, hx165_0⟩ := Kd.at_string (Kd.R_reads' HO_6.out).2.2 1 p165 q165; obtain rfl : ad162 = ad165 := (by injection e165); (try simp only [show (1 : Int).toNat = 1 from rfl, Nat.reduceMul, Nat.reduceEqDiff, Go.Addr.add, ↓reduceIte] at hx165_0); have qi165 : (1 < t145.length) = True := eq_true (by omega); (try rw [show ((1 : Int)).toNat = 1 from rfl] at hx165_0); replace p165 := eq_true p165; replace q165 := eq_true q165; have hnb77 := NB148_144.out; have hnc77 := NB144_148.out; have hcz78_0 : w76.cell? ⟨gb148, 0, none⟩ = some (.int .i64 x149000_1) := (kCe BK148.out 0).trans rfl; have hcz78_1 : w76.cell? ⟨gb148, 1, none⟩ = some (.string (⟨#[]⟩ : ByteArray)) := (kCe BK148.out 1).trans rfl; have hcz78_2 : w76.cell? ⟨gb148, 2, none⟩ = some (.string (⟨#[]⟩ : ByteArray)) := (kCe BK148.out 2).trans rfl; have hcz78_3 : w76.cell? ⟨gb148, 3, none⟩ = some (.int .i64 0) := (kCe BK148.out 3).trans rfl; have hcz78_4 : w76.cell? ⟨gb148, 4, none⟩ = some (.int .i64 a1) := (kCe BK148.out 4).trans rfl; have hfz78_0 := bFz BK148.out 0; have hfz78_1 := bFz BK148.out 1; have hfz78_2 := bFz BK148.out 2; have hfz78_3 := bFz BK148.out 3; have hfz78_4 := bFz BK148.out 4; have p166 : 0 ≤ (3 : Int) := (by omega); have q166 : 3 < (t145.length : Int) := odT (by first | (with_reducible assumption) | assumption); obtain ⟨ad166, e166, hx166_0⟩ := Kd.at_string (Kd.R_reads' HO_6.out).2.2 3 p166 q166; obtain rfl : ad162 = ad166 := (by injection e166); (try simp only [show (3 : Int).toNat = 3 from rfl, Nat.reduceMul, Nat.reduceEqDiff, Go.Addr.add, ↓reduceIte] at hx166_0); have qi166 : (3 < t145.length) = True := eq_true (by omega); (try rw [show ((3 : Int)).toNat = 3 from rfl] at hx166_0); have hn166_0 : ad162.block ≠ gb148 := Kd.own_blk (Kd.R_ne HO_6.out BK148.out (by decide)); have hn166_1 : ad162.block ≠ gb148 := Kd.own_blk (Kd.R_ne HO_6.out BK148.out (by decide)); replace hx166_0 := (cell_far (p := ⟨gb148, 1, none⟩) (by first | (rw [add_block]; exact hn166_0) | (show (Addr.add _ _).block ≠ _; rw [add_block]; exact hn166_0) | exact hn166_0) (.string (rdOf ByteArray.empty t145 1))).trans hx166_0; replace hx166_0 := (cell_far (p := ⟨gb148, 2, none⟩) (by first | (rw [add_block]; exact hn166_1) | (show (Addr.add _ _).block ≠ _; rw [add_block]; exact hn166_1) | exact hn166_1) (.string t163)).trans hx166_0; clear hn166_0; clear hn166_1; replace p166 := eq_true p166; replace q166 := eq_true q166) | ((with_reducible refine gate_callee (f := 93) rfl ?_); refine goesL_ (some 88) rfl rfl Try.func93 (by kernel_rfl) rfl #[.string (rdOf ByteArray.empty t145 3)] rfl (by (try simp only [qM0, qM1, qM2]); first | done | rfl | (simp only [qD0, qD1]; rfl)) ?_; (with_reducible refine (r8_digits.calls kj22 (rdOf ByteArray.empty t145 3) t167 _ A74.out).mono ?_); rintro e w' ⟨rfl, ⟨nd, rfl⟩⟩; refine ⟨_, rfl, ?_⟩))
        have n0_ : Aside0 (Kd.R Kd.string 9 (((w76.setCell ⟨gb148, 1, none⟩ (.string (rdOf ByteArray.empty t145 1))).setCell ⟨gb148, 2, none⟩ (.string t163)).setCell ⟨gb148, 3, none⟩ (.int .i64 t167)) w.heap.size (fun _ => True) (.slice (some ad162) t145.length co75) t145) := ⟨by (with_reducible repeat (first | apply Kd.R_alloc | apply Kd.R_drewN | apply Kd.R_drew)); exact Kd.R_mono (Kd.R_far (p := ⟨gb148, 3, none⟩) (Kd.R_far (p := ⟨gb148, 2, none⟩) (Kd.R_far (p := ⟨gb148, 1, none⟩) (Kd.R_types HO_6.out BK148.out (by decide)) (fun _ hk => hk.2) (.string (rdOf ByteArray.empty t145 1))) (fun _ hk => hk.2) (.string t163)) (fun _ hk => hk.2) (.int .i64 t167)) (fun _ hk => trivial)⟩
        have n1_ : Aside0 ((((w76.setCell ⟨gb148, 1, none⟩ (.string (rdOf ByteArray.empty t145 1))).setCell ⟨gb148, 2, none⟩ (.string t163)).setCell ⟨gb148, 3, none⟩ (.int .i64 t167)).heap[gb144]? = some (.cells #[.int .i64 0, .string (⟨#[]⟩ : ByteArray), .string (⟨#[]⟩ : ByteArray), .int .i64 0, .int .i64 0] 33 (0, 0))) := ⟨by (with_reducible repeat (first | refine kDN ?_ _ | refine kDr ?_ | refine kAl ?_ _)); refine blk_far ?_ NB144_148.out _; (with_reducible repeat (first | refine kDN ?_ _ | refine kDr ?_ | refine kAl ?_ _)); refine blk_far ?_ NB144_148.out _; (with_reducible repeat (first | refine kDN ?_ _ | refine kDr ?_ | refine kAl ?_ _)); refine blk_far ?_ NB144_148.out _; (with_reducible repeat (first | refine kDN ?_ _ | refine kDr ?_ | refine kAl ?_ _)); exact BK144.out⟩
        have n2_ : Aside0 ((((w76.setCell ⟨gb148, 1, none⟩ (.string (rdOf ByteArray.empty t145 1))).setCell ⟨gb148, 2, none⟩ (.string t163)).setCell ⟨gb148, 3, none⟩ (.int .i64 t167)).heap[gb148]? = some (.cells #[.int .i64 x149000_1, .string (rdOf ByteArray.empty t145 1), .string t163, .int .i64 t167, .int .i64 a1] 33 (0, 0))) := ⟨by (with_reducible repeat (first | refine kDN ?_ _ | refine kDr ?_ | refine kAl ?_ _)); refine blk_put (cs := #[.int .i64 x149000_1, .string (rdOf ByteArray.empty t145 1), .string t163, .int .i64 0, .int .i64 a1]) ?_ 3 _ rfl; (with_reducible repeat (first | refine kDN ?_ _ | refine kDr ?_ | refine kAl ?_ _)); refine blk_put (cs := #[.int .i64 x149000_1, .string (rdOf ByteArray.empty t145 1), .string (⟨#[]⟩ : ByteArray), .int .i64 0, .int .i64 a1]) ?_ 2 _ rfl; (with_reducible repeat (first | refine kDN ?_ _ | refine kDr ?_ | refine kAl ?_ _)); refine blk_put (cs := #[.int .i64 x149000_1, .string (⟨#[]⟩ : ByteArray), .string (⟨#[]⟩ : ByteArray), .int .i64 0, .int .i64 a1]) ?_ 1 _ rfl; (with_reducible repeat (first | refine kDN ?_ _ | refine kDr ?_ | refine kAl ?_ _)); exact BK148.out⟩
        have n3_ : Aside0 (Below w.heap.size w (((w76.setCell ⟨gb148, 1, none⟩ (.string (rdOf ByteArray.empty t145 1))).setCell ⟨gb148, 2, none⟩ (.string t163)).setCell ⟨gb148, 3, none⟩ (.int .i64 t167))) := ⟨by repeat (first | (with_reducible first | exact HB.out | apply bAl | apply pbD | apply bD1 | refine bSt ?_ GE144.out | refine bSt ?_ GE148.out) | exact HB.out)⟩
        (try clear HO_6)
        (try clear BK144)
        (try clear BK148)
        (try clear HB)
        repeat rw [setCell_drewN]
        generalize (((w76.setCell ⟨gb148, 1, none⟩ (.string (rdOf ByteArray.empty t145 1))).setCell ⟨gb148, 2, none⟩ (.string t163)).setCell ⟨gb148, 3, none⟩ (.int .i64 t167)) = w79 at n0_ n1_ n2_ n3_ ⊢
        have HO_6 := n0_
        have BK144 := n1_
        have BK148 := n2_
        have HB := n3_
        clear n0_ n1_ n2_ n3_
        (try (rw [drewN_self w79]; generalize hq_ : World.drewN w79 _ = w79; have n0_ : Aside0 (Kd.R Kd.string 9 w79 w.heap.size (fun _ => True) (.slice (some ad162) t145.length co75) t145) := ⟨by rw [← hq_]; exact (by (with_reducible repeat (first | apply Kd.R_alloc | apply Kd.R_drewN | apply Kd.R_drew)); exact HO_6.out)⟩; have n1_ : Aside0 (w79.heap[gb144]? = some (.cells #[.int .i64 0, .string (⟨#[]⟩ : ByteArray), .string (⟨#[]⟩ : ByteArray), .int .i64 0, .int .i64 0] 33 (0, 0))) := ⟨by rw [← hq_]; exact (by (with_reducible repeat (first | refine kDN ?_ _ | refine kDr ?_ | refine kAl ?_ _)); exact BK144.out)⟩; have n2_ : Aside0 (w79.heap[gb148]? = some (.cells #[.int .i64 x149000_1, .string (rdOf ByteArray.empty t145 1), .string t163, .int .i64 t167, .int .i64 a1] 33 (0, 0))) := ⟨by rw [← hq_]; exact (by (with_reducible repeat (first | refine kDN ?_ _ | refine kDr ?_ | refine kAl ?_ _)); exact BK148.out)⟩; have n3_ : Aside0 (Below w.heap.size w w79) := ⟨by rw [← hq_]; exact (by repeat (first | (with_reducible first | exact HB.out | apply bAl | apply pbD | apply bD1 | refine bSt ?_ GE144.out | refine bSt ?_ GE148.out) | exact HB.out))⟩; clear HO_6 BK144 BK148 HB hq_; have HO_6 := n0_; have BK144 := n1_; have BK148 := n2_; have HB := n3_; clear n0_ n1_ n2_ n3_))
        have n0_ := aK (Kd.R_drew HO_6.out)
        have n1_ := aK (kDr BK144.out)
        have n2_ := aK (kDr BK148.out)
        have n3_ := aK (bD1 HB.out)
        clear HO_6
        clear BK144
        clear BK148
        clear HB
        have HO_6 := n0_
        have BK144 := n1_
        have BK148 := n2_
        have HB := n3_
        clear n0_ n1_ n2_ n3_
        refine start_ (n := 6) (S := fun w' => w'.cell? ⟨gb148, 0, none⟩ = some (.int .i64 x149000_1) ∧ w'.cell? ⟨gb148, 1, none⟩ = some (.string (rdOf ByteArray.empty t145 1)) ∧ w'.cell? ⟨gb148, 2, none⟩ = some (.string t163) ∧ w'.cell? ⟨gb148, 3, none⟩ = some (.int .i64 t167) ∧ w'.cell? ⟨gb148, 4, none⟩ = some (.int .i64 a1)) (ds := []) (bl 6 0) (by kernel_rfl) rfl (by kernel_rfl) ⟨(kCe BK148.out 0).trans rfl, (kCe BK148.out 1).trans rfl, (kCe BK148.out 2).trans rfl, (kCe BK148.out 3).trans rfl, (kCe BK148.out 4).trans rfl⟩ (fun hHeld => ?_)
        generalize w79.drew = w80 at HO_6 BK144 BK148 HB hHeld ⊢
        refine pure_ (i := 1) (N := some 91) (v := ?_) (a' := ?_) (bl 6 2) rfl rfl (by kernel_rfl) (fun _ _ _ h => h) (Or.inl ⟨by rfl, ?_⟩) ?_ ?_
        rotate_left
        ·
         intro w'
         go_simp
         with_reducible rfl
        rotate_left
        ·
         simp only [Act.put, qSa, qS0, qS1, i64_w, i32_w]
         rfl
        refine take_ (i := 0) (N := some 90) (v := ?_) (a' := ?_) (bl 6 3) rfl rfl (by kernel_rfl) (fun _ _ _ h => h) (Or.inl ⟨by rfl, ?_⟩) hHeld ?_ ?_
        rotate_left
        ·
         rintro w' ⟨s0, s1, s2, s3, s4⟩
         go_simp
         with_reducible rfl
        rotate_left
        ·
         simp only [Act.put, qSa, qS0, qS1, i64_w, i32_w]
         rfl
        refine take_ (i := 2) (N := some 92) (v := ?_) (a' := ?_) (bl 6 7) rfl rfl (by kernel_rfl) (fun _ _ _ h => h) (Or.inl ⟨by rfl, ?_⟩) hHeld ?_ ?_
        rotate_left
        ·
         rintro w' ⟨s0, s1, s2, s3, s4⟩
         go_simp
         with_reducible rfl
        rotate_left
        ·
         simp only [Act.put, qSa, qS0, qS1, i64_w, i32_w]
         rfl
        refine pure_ (i := 3) (N := some 93) (v := ?_) (a' := ?_) (bl 6 15) rfl rfl (by kernel_rfl) (fun _ _ _ h => h) (Or.inl ⟨by rfl, ?_⟩) ?_ ?_
        rotate_left
        ·
         intro w'
         go_simp
         with_reducible rfl
        rotate_left
        ·
         simp only [Act.put, qSa, qS0, qS1, i64_w, i32_w]
         rfl
        refine one_ (i := 4) (N := none) (bl 6 31) rfl rfl (by kernel_rfl) (by decide) (fun K hK => ?_)
        have hs81 : w80.cell? ⟨gb144, 0, none⟩ = some (.int .i64 0) := (kCe BK144.out 0).trans rfl
        have hfs81 := bFz BK144.out 0
        have hns81_1 := NB148_144.out
        have hms81_1 := NB144_148.out
        have hs82 : w80.cell? ⟨gb144, 1, none⟩ = some (.string (⟨#[]⟩ : ByteArray)) := (kCe BK144.out 1).trans rfl
        have hfs82 := bFz BK144.out 1
        have hns82_1 := NB148_144.out
        have hms82_1 := NB144_148.out
        have hs83 : w80.cell? ⟨gb144, 2, none⟩ = some (.string (⟨#[]⟩ : ByteArray)) := (kCe BK144.out 2).trans rfl
        have hfs83 := bFz BK144.out 2
        have hns83_1 := NB148_144.out
        have hms83_1 := NB144_148.out
        have hs84 : w80.cell? ⟨gb144, 3, none⟩ = some (.int .i64 0) := (kCe BK144.out 3).trans rfl
        have hfs84 := bFz BK144.out 3
        have hns84_1 := NB148_144.out
        have hms84_1 := NB144_148.out
        have hs85 : w80.cell? ⟨gb144, 4, none⟩ = some (.int .i64 0) := (kCe BK144.out 4).trans rfl
        have hfs85 := bFz BK144.out 4
        have hns85_1 := NB148_144.out
        have hms85_1 := NB144_148.out
        refine skip_ (w1 := ?_) (by rfl) rfl ?_ ?_
        rotate_left
        ·
         go_simp
         rfl
        refine hK.out _ _ ⟨((cell_far (p := ⟨gb144, _, none⟩) NB148_144.out _).trans (((cell_far (p := ⟨gb144, _, none⟩) NB148_144.out _).trans (((cell_far (p := ⟨gb144, _, none⟩) NB148_144.out _).trans (((cell_far (p := ⟨gb144, _, none⟩) NB148_144.out _).trans (((cell_far (p := ⟨gb144, _, none⟩) NB148_144.out _).trans (hHeld.1)))))))))), ((cell_far (p := ⟨gb144, _, none⟩) NB148_144.out _).trans (((cell_far (p := ⟨gb144, _, none⟩) NB148_144.out _).trans (((cell_far (p := ⟨gb144, _, none⟩) NB148_144.out _).trans (((cell_far (p := ⟨gb144, _, none⟩) NB148_144.out _).trans (((cell_far (p := ⟨gb144, _, none⟩) NB148_144.out _).trans (hHeld.2.1)))))))))), ((cell_far (p := ⟨gb144, _, none⟩) NB148_144.out _).trans (((cell_far (p := ⟨gb144, _, none⟩) NB148_144.out _).trans (((cell_far (p := ⟨gb144, _, none⟩) NB148_144.out _).trans (((cell_far (p := ⟨gb144, _, none⟩) NB148_144.out _).trans (((cell_far (p := ⟨gb144, _, none⟩) NB148_144.out _).trans (hHeld.2.2.1)))))))))), ((cell_far (p := ⟨gb144, _, none⟩) NB148_144.out _).trans (((cell_far (p := ⟨gb144, _, none⟩) NB148_144.out _).trans (((cell_far (p := ⟨gb144, _, none⟩) NB148_144.out _).trans (((cell_far (p := ⟨gb144, _, none⟩) NB148_144.out _).trans (((cell_far (p := ⟨gb144, _, none⟩) NB148_144.out _).trans (hHeld.2.2.2.1)))))))))), ((cell_far (p := ⟨gb144, _, none⟩) NB148_144.out _).trans (((cell_far (p := ⟨gb144, _, none⟩) NB148_144.out _).trans (((cell_far (p := ⟨gb144, _, none⟩) NB148_144.out _).trans (((cell_far (p := ⟨gb144, _, none⟩) NB148_144.out _).trans (((cell_far (p := ⟨gb144, _, none⟩) NB148_144.out _).trans (hHeld.2.2.2.2))))))))))⟩ (fun hHeld => ?_)
        clear hK K
        refine pure_ (i := 5) (N := some 5) (v := ?_) (a' := ?_) (bl 6 63) rfl rfl (by kernel_rfl) (fun _ _ _ h => h) (Or.inl ⟨by rfl, ?_⟩) ?_ ?_
        rotate_left
        ·
         intro w'
         go_simp
         with_reducible rfl
        rotate_left
        ·
         simp only [Act.put, qSa, qS0, qS1, i64_w, i32_w]
         rfl
        refine done_ (by kernel_rfl) ?_
        try go_wp2
        refine bodyPost_ret (results_ct rfl _ _ gb144 33 #[.int .i64 x149000_1, .string (rdOf ByteArray.empty t145 1), .string t163, .int .i64 t167, .int .i64 a1] (0, 0) _ rfl (by (with_reducible repeat (first | refine kDN ?_ _ | refine kDr ?_ | refine kAl ?_ _)); refine blk_put (cs := #[.int .i64 x149000_1, .string (rdOf ByteArray.empty t145 1), .string t163, .int .i64 t167, .int .i64 0]) ?_ 4 _ rfl; (with_reducible repeat (first | refine kDN ?_ _ | refine kDr ?_ | refine kAl ?_ _)); refine blk_put (cs := #[.int .i64 x149000_1, .string (rdOf ByteArray.empty t145 1), .string t163, .int .i64 0, .int .i64 0]) ?_ 3 _ rfl; (with_reducible repeat (first | refine kDN ?_ _ | refine kDr ?_ | refine kAl ?_ _)); refine blk_put (cs := #[.int .i64 x149000_1, .string (rdOf ByteArray.empty t145 1), .string (⟨#[]⟩ : ByteArray), .int .i64 0, .int .i64 0]) ?_ 2 _ rfl; (with_reducible repeat (first | refine kDN ?_ _ | refine kDr ?_ | refine kAl ?_ _)); refine blk_put (cs := #[.int .i64 x149000_1, .string (⟨#[]⟩ : ByteArray), .string (⟨#[]⟩ : ByteArray), .int .i64 0, .int .i64 0]) ?_ 1 _ rfl; (with_reducible repeat (first | refine kDN ?_ _ | refine kDr ?_ | refine kAl ?_ _)); refine blk_put (cs := #[.int .i64 0, .string (⟨#[]⟩ : ByteArray), .string (⟨#[]⟩ : ByteArray), .int .i64 0, .int .i64 0]) ?_ 0 _ rfl; (with_reducible repeat (first | refine kDN ?_ _ | refine kDr ?_ | refine kAl ?_ _)); exact BK144.out) Try.underlying33 rfl (by kernel_rfl)) rfl ?_
        exact ⟨by first | rfl | (simp [eWn, eWs] <;> rfl) | (simp [*, eWn, eWs] <;> rfl), by repeat (first | (with_reducible first | exact HB.out | apply bAl | apply pbD | apply bD1 | refine bSt ?_ GE144.out | refine bSt ?_ GE148.out) | exact HB.out)⟩
       rw [if_pos c65] at H
       have c65b0 : decide (0 ≤ t164) = true := decide_eq_true c65
       clear c65
       simp only [Option.some.injEq, Prod.mk.injEq] at H
       obtain ⟨rfl, rfl, rfl, rfl, rfl, rfl⟩ := H
       obtain ⟨Ao66, co66, eo66⟩ := Kd.R_slice HO_6.out
       subst eo66
       have p162 : 0 ≤ (2 : Int) := (by omega)
       have q162 : 2 < (t145.length : Int) := odT (by first | (with_reducible assumption) | assumption)
       obtain ⟨ad162, e162, hx162_0⟩ := Kd.at_string (Kd.R_reads' HO_6.out).2.2 2 p162 q162
       cases e162
       (try simp only [show (2 : Int).toNat = 2 from rfl, Nat.reduceMul, Nat.reduceEqDiff, Go.Addr.add, ↓reduceIte] at hx162_0)
       have qi162 : (2 < t145.length) = True := eq_true (by omega)
       (try rw [show ((2 : Int)).toNat = 2 from rfl] at hx162_0)
       replace p162 := eq_true p162
       replace q162 := eq_true q162
       go_wp2_with (first | ((with_reducible refine gate_callee (f := 92) rfl ?_); refine goesL_ (some 70) rfl rfl Try.func92 (by kernel_rfl) rfl #[.string (rdOf ByteArray.empty t145 2)] rfl (by (try simp only [qM0, qM1, qM2]); first | done | rfl | (simp only [qD0, qD1]; rfl)) ?_; (with_reducible refine (r2_Parse.calls kj22 (rdOf ByteArray.empty t145 2) t163 t164 _ A64.out).mono ?_); rintro e w67 ⟨rfl, hb⟩; refine ⟨_, rfl, ?_⟩; have n0_ := aK (Kd.R_below (by (with_reducible repeat (first | apply Kd.R_alloc | apply Kd.R_drewN | apply Kd.R_drew)); exact HO_6.out) hb); have n1_ := aK (kBe (g := gb144) (o := .cells #[.int .i64 0, .string (⟨#[]⟩ : ByteArray), .string (⟨#[]⟩ : ByteArray), .int .i64 0, .int .i64 0] 33 (0, 0)) (by (with_reducible repeat (first | refine kDN ?_ _ | refine kDr ?_ | refine kAl ?_ _)); exact BK144.out) hb); have n2_ := aK (kBe (g := gb148) (o := .cells #[.int .i64 x149000_1, .string (⟨#[]⟩ : ByteArray), .string (⟨#[]⟩ : ByteArray), .int .i64 0, .int .i64 a1] 33 (0, 0)) (by (with_reducible repeat (first | refine kDN ?_ _ | refine kDr ?_ | refine kAl ?_ _)); exact BK148.out) hb); have n3_ := aK (bSp (by repeat (first | (with_reducible first | exact HB.out | apply bAl | apply pbD | apply bD1 | refine bSt ?_ GE144.out | refine bSt ?_ GE148.out) | exact HB.out)) hb); clear HO_6; clear BK144; clear BK148; clear HB; have HO_6 := n0_; have BK144 := n1_; have BK148 := n2_; have HB := n3_; clear n0_ n1_ n2_ n3_; (try clear hb); (try clear hb2); (try clear hk); (try clear hi); have hnb68 := NB148_144.out; have hnc68 := NB144_148.out; have hcz69_0 : w67.cell? ⟨gb148, 0, none⟩ = some (.int .i64 x149000_1) := (kCe BK148.out 0).trans rfl; have hcz69_1 : w67.cell? ⟨gb148, 1, none⟩ = some (.string (⟨#[]⟩ : ByteArray)) := (kCe BK148.out 1).trans rfl; have hcz69_2 : w67.cell? ⟨gb148, 2, none⟩ = some (.string (⟨#[]⟩ : ByteArray)) := (kCe BK148.out 2).trans rfl; have hcz69_3 : w67.cell? ⟨gb148, 3, none⟩ = some (.int .i64 0) := (kCe BK148.out 3).trans rfl; have hcz69_4 : w67.cell? ⟨gb148, 4, none⟩ = some (.int .i64 a1) := (kCe BK148.out 4).trans rfl; have hfz69_0 := bFz BK148.out 0; have hfz69_1 := bFz BK148.out 1; have hfz69_2 := bFz BK148.out 2; have hfz69_3 := bFz BK148.out 3; have hfz69_4 := bFz BK148.out 4; have hcz70_0 : w67.cell? ⟨gb144, 0, none⟩ = some (.int .i64 0) := (kCe BK144.out 0).trans rfl; have hcz70_1 : w67.cell? ⟨gb144, 1, none⟩ = some (.string (⟨#[]⟩ : ByteArray)) := (kCe BK144.out 1).trans rfl; have hcz70_2 : w67.cell? ⟨gb144, 2, none⟩ = some (.string (⟨#[]⟩ : ByteArray)) := (kCe BK144.out 2).trans rfl; have hcz70_3 : w67.cell? ⟨gb144, 3, none⟩ = some (.int .i64 0) := (kCe BK144.out 3).trans rfl; have hcz70_4 : w67.cell? ⟨gb144, 4, none⟩ = some (.int .i64 0) := (kCe BK144.out 4).trans rfl; have hfz70_0 := bFz BK144.out 0; have hfz70_1 := bFz BK144.out 1; have hfz70_2 := bFz BK144.out 2; have hfz70_3 := bFz BK144.out 3; have hfz70_4 := bFz BK144.out 4))
       refine bodyPost_ret (results_ct rfl _ _ gb144 33 #[.int .i64 x149000_1, .string (⟨#[]⟩ : ByteArray), .string (⟨#[]⟩ : ByteArray), .int .i64 0, .int .i64 a1] (0, 0) _ rfl (by (with_reducible repeat (first | refine kDN ?_ _ | refine kDr ?_ | refine kAl ?_ _)); refine blk_put (cs := #[.int .i64 x149000_1, .string (⟨#[]⟩ : ByteArray), .string (⟨#[]⟩ : ByteArray), .int .i64 0, .int .i64 0]) ?_ 4 _ rfl; (with_reducible repeat (first | refine kDN ?_ _ | refine kDr ?_ | refine kAl ?_ _)); refine blk_put (cs := #[.int .i64 x149000_1, .string (⟨#[]⟩ : ByteArray), .string (⟨#[]⟩ : ByteArray), .int .i64 0, .int .i64 0]) ?_ 3 _ rfl; (with_reducible repeat (first | refine kDN ?_ _ | refine kDr ?_ | refine kAl ?_ _)); refine blk_put (cs := #[.int .i64 x149000_1, .string (⟨#[]⟩ : ByteArray), .string (⟨#[]⟩ : ByteArray), .int .i64 0, .int .i64 0]) ?_ 2 _ rfl; (with_reducible repeat (first | refine kDN ?_ _ | refine kDr ?_ | refine kAl ?_ _)); refine blk_put (cs := #[.int .i64 x149000_1, .string (⟨#[]⟩ : ByteArray), .string (⟨#[]⟩ : ByteArray), .int .i64 0, .int .i64 0]) ?_ 1 _ rfl; (with_reducible repeat (first | refine kDN ?_ _ | refine kDr ?_ | refine kAl ?_ _)); refine blk_put (cs := #[.int .i64 0, .string (⟨#[]⟩ : ByteArray), .string (⟨#[]⟩ : ByteArray), .int .i64 0, .int .i64 0]) ?_ 0 _ rfl; (with_reducible repeat (first | refine kDN ?_ _ | refine kDr ?_ | refine kAl ?_ _)); exact BK144.out) Try.underlying33 rfl (by kernel_rfl)) rfl ?_
       exact ⟨by first | rfl | (simp [eWn, eWs] <;> rfl) | (simp [*, eWn, eWs] <;> rfl), by repeat (first | (with_reducible first | exact HB.out | apply bAl | apply pbD | apply bD1 | refine bSt ?_ GE144.out | refine bSt ?_ GE148.out) | exact HB.out)⟩
      subst c59
      have H1 : (some (x149000_1, (⟨#[]⟩ : ByteArray), (⟨#[]⟩ : ByteArray), 0, a1, false)) = some (r1, r2, r3, r4, r5, r6) := by rw [if_pos rfl] at H; exact H
      clear H
      have H := H1
      clear H1
      simp only [Option.some.injEq, Prod.mk.injEq] at H
      obtain ⟨rfl, rfl, rfl, rfl, rfl, rfl⟩ := H
      have hnb60 := NB148_144.out
      have hnc60 := NB144_148.out
      have hcz61_0 : wc.cell? ⟨gb148, 0, none⟩ = some (.int .i64 x149000_1) := (kCe BK148.out 0).trans rfl
      have hcz61_1 : wc.cell? ⟨gb148, 1, none⟩ = some (.string (⟨#[]⟩ : ByteArray)) := (kCe BK148.out 1).trans rfl
      have hcz61_2 : wc.cell? ⟨gb148, 2, none⟩ = some (.string (⟨#[]⟩ : ByteArray)) := (kCe BK148.out 2).trans rfl
      have hcz61_3 : wc.cell? ⟨gb148, 3, none⟩ = some (.int .i64 0) := (kCe BK148.out 3).trans rfl
      have hcz61_4 : wc.cell? ⟨gb148, 4, none⟩ = some (.int .i64 a1) := (kCe BK148.out 4).trans rfl
      have hfz61_0 := bFz BK148.out 0
      have hfz61_1 := bFz BK148.out 1
      have hfz61_2 := bFz BK148.out 2
      have hfz61_3 := bFz BK148.out 3
      have hfz61_4 := bFz BK148.out 4
      have hcz62_0 : wc.cell? ⟨gb144, 0, none⟩ = some (.int .i64 0) := (kCe BK144.out 0).trans rfl
      have hcz62_1 : wc.cell? ⟨gb144, 1, none⟩ = some (.string (⟨#[]⟩ : ByteArray)) := (kCe BK144.out 1).trans rfl
      have hcz62_2 : wc.cell? ⟨gb144, 2, none⟩ = some (.string (⟨#[]⟩ : ByteArray)) := (kCe BK144.out 2).trans rfl
      have hcz62_3 : wc.cell? ⟨gb144, 3, none⟩ = some (.int .i64 0) := (kCe BK144.out 3).trans rfl
      have hcz62_4 : wc.cell? ⟨gb144, 4, none⟩ = some (.int .i64 0) := (kCe BK144.out 4).trans rfl
      have hfz62_0 := bFz BK144.out 0
      have hfz62_1 := bFz BK144.out 1
      have hfz62_2 := bFz BK144.out 2
      have hfz62_3 := bFz BK144.out 3
      have hfz62_4 := bFz BK144.out 4
      go_wp2
      refine bodyPost_ret (results_ct rfl _ _ gb144 33 #[.int .i64 x149000_1, .string (⟨#[]⟩ : ByteArray), .string (⟨#[]⟩ : ByteArray), .int .i64 0, .int .i64 a1] (0, 0) _ rfl (by (with_reducible repeat (first | refine kDN ?_ _ | refine kDr ?_ | refine kAl ?_ _)); refine blk_put (cs := #[.int .i64 x149000_1, .string (⟨#[]⟩ : ByteArray), .string (⟨#[]⟩ : ByteArray), .int .i64 0, .int .i64 0]) ?_ 4 _ rfl; (with_reducible repeat (first | refine kDN ?_ _ | refine kDr ?_ | refine kAl ?_ _)); refine blk_put (cs := #[.int .i64 x149000_1, .string (⟨#[]⟩ : ByteArray), .string (⟨#[]⟩ : ByteArray), .int .i64 0, .int .i64 0]) ?_ 3 _ rfl; (with_reducible repeat (first | refine kDN ?_ _ | refine kDr ?_ | refine kAl ?_ _)); refine blk_put (cs := #[.int .i64 x149000_1, .string (⟨#[]⟩ : ByteArray), .string (⟨#[]⟩ : ByteArray), .int .i64 0, .int .i64 0]) ?_ 2 _ rfl; (with_reducible repeat (first | refine kDN ?_ _ | refine kDr ?_ | refine kAl ?_ _)); refine blk_put (cs := #[.int .i64 x149000_1, .string (⟨#[]⟩ : ByteArray), .string (⟨#[]⟩ : ByteArray), .int .i64 0, .int .i64 0]) ?_ 1 _ rfl; (with_reducible repeat (first | refine kDN ?_ _ | refine kDr ?_ | refine kAl ?_ _)); refine blk_put (cs := #[.int .i64 0, .string (⟨#[]⟩ : ByteArray), .string (⟨#[]⟩ : ByteArray), .int .i64 0, .int .i64 0]) ?_ 0 _ rfl; (with_reducible repeat (first | refine kDN ?_ _ | refine kDr ?_ | refine kAl ?_ _)); exact BK144.out) Try.underlying33 rfl (by kernel_rfl)) rfl ?_
      exact ⟨by first | rfl | (simp [eWn, eWs] <;> rfl) | (simp [*, eWn, eWs] <;> rfl), by repeat (first | (with_reducible first | exact HB.out | apply bAl | apply pbD | apply bD1 | refine bSt ?_ GE144.out | refine bSt ?_ GE148.out) | exact HB.out)⟩
   rw [if_pos c11] at H
   have c11b0 : decide (x9_1 < (t149.length : Int)) = true := decide_eq_true c11
   clear c11
   by_cases c12 : 0 ≤ x9_1
   rotate_left
   ·
    rw [if_neg c12] at H
    exact absurd H (by simp)
   rw [if_pos c12] at H
   have c12b0 : decide (0 ≤ x9_1) = true := decide_eq_true c12
   clear c12
   by_cases c13 : 0 < (t145.length : Int)
   rotate_left
   ·
    rw [if_neg c13] at H
    exact absurd H (by simp)
   rw [if_pos c13] at H
   have c13b0 : decide (0 < (t145.length : Int)) = true := decide_eq_true c13
   have c13b1 : decide (0 < t145.length) = true := decide_eq_true (by omega)
   clear c13
   by_cases c14 : (rdOf ByteArray.empty t149 x9_1).toList = (rdOf ByteArray.empty t145 0).toList
   rotate_left
   ·
    rw [if_neg c14] at H
    have c14b0 : ((rdOf ByteArray.empty t149 x9_1).toList == (rdOf ByteArray.empty t145 0).toList) = false := beq_eq_false_iff_ne.mpr c14
    have c14b1 : ((rdOf ByteArray.empty t149 x9_1).toList != (rdOf ByteArray.empty t145 0).toList) = true := bne_iff_ne.mpr c14
    have H' := aK H
    clear H
    obtain ⟨Ao20, co20, eo20⟩ := Kd.R_slice HO_8.out
    subst eo20
    try go_wp2
    have n0_ := aK (Kd.R_drew HO_6.out)
    have n1_ := aK (Kd.R_drew HO_8.out)
    have n2_ := aK (kDr BK144.out)
    have n3_ := aK (kDr BK148.out)
    have n4_ := aK (bD1 HB.out)
    clear HO_6
    clear HO_8
    clear BK144
    clear BK148
    clear HB
    have HO_6 := n0_
    have HO_8 := n1_
    have BK144 := n2_
    have BK148 := n3_
    have HB := n4_
    clear n0_ n1_ n2_ n3_ n4_
    have p152 : 0 ≤ (x9_1 : Int) := odT (by first | (with_reducible assumption) | assumption)
    have q152 : x9_1 < (t149.length : Int) := odT (by first | (with_reducible assumption) | assumption)
    obtain ⟨ad152, e152, hx152_0⟩ := Kd.at_string (Kd.R_reads' HO_8.out).2.2 x9_1 p152 q152
    cases e152
    replace p152 := eq_true p152
    replace q152 := eq_true q152
    obtain ⟨Ao22, co22, eo22⟩ := Kd.R_slice HO_6.out
    (first | subst eo22 | (injection eo22 with f1_ f2_ f3_; have f4_ := f1_.symm; have f5_ := f3_.symm; clear f1_ f2_ f3_; subst f4_; subst f5_))
    have p153 : 0 ≤ (0 : Int) := (by omega)
    have q153 : 0 < (t145.length : Int) := odT (by first | (with_reducible assumption) | assumption)
    obtain ⟨ad153, e153, hx153_0⟩ := Kd.at_string (Kd.R_reads' HO_6.out).2.2 0 p153 q153
    cases e153
    have qi153 : (0 < t145.length) = True := eq_true (by omega)
    (try rw [show ((0 : Int)).toNat = 0 from rfl] at hx153_0)
    (try rw [Addr.add_zero'] at hx153_0)
    replace p153 := eq_true p153
    replace q153 := eq_true q153
    refine start_ (n := 8) (S := fun w' => w'.cell? (ad152.add (x9_1).toNat) = some (.string (rdOf ByteArray.empty t149 x9_1)) ∧ w'.cell? ad153 = some (.string (rdOf ByteArray.empty t145 0))) (ds := []) (bl 8 0) (by kernel_rfl) rfl (by kernel_rfl) ⟨hx152_0, hx153_0⟩ (fun hHeld => ?_); refine with_tabW r8_rule.tab7 r8_rule.bits7 (fun HT_ HW_ => ?_)
    generalize wr.drew = w21 at HO_6 HO_8 BK144 BK148 HB hx152_0 hx153_0 hHeld ⊢
    refine pV 0 23 (bl 8 1) HT_.out ?_
    refine pV 1 24 (bl 8 3) HT_.out ?_
    refine pV 2 25 (bl 8 7) HT_.out ?_
    refine pV 4 27 (bl 8 23) HT_.out ?_
    refine pV 5 28 (bl 8 55) HT_.out ?_
    refine tV 3 26 (bl 8 63) HT_.out HW_.out hHeld ?_ (hv := by rintro w' ⟨s0, s1⟩; go_simp; with_reducible rfl)
    refine tV 6 29 (bl 8 127) HT_.out HW_.out hHeld ?_ (hv := by rintro w' ⟨s0, s1⟩; go_simp; with_reducible rfl)
    refine pV 7 30 (bl 8 255) HT_.out ?_
    refine done_ (done_of HT_.out (by kernel_rfl)) ?_
    try go_wp2
    go_roundg k1
    case measure => have := HK1.out; omega
    case rel => exact ⟨(wrap64 (x9_1 + 1)), (x149000_1), (by first | rfl | (simp; done) | (simp [*]; done)), H', ⟨by have := HK1.out; omega⟩, ⟨by (with_reducible repeat (first | apply Kd.R_alloc | apply Kd.R_drewN | apply Kd.R_drew)); exact HO_6.out⟩, ⟨by (with_reducible repeat (first | apply Kd.R_alloc | apply Kd.R_drewN | apply Kd.R_drew)); exact HO_8.out⟩, ⟨by (with_reducible repeat (first | refine kDN ?_ _ | refine kDr ?_ | refine kAl ?_ _)); exact BK144.out⟩, ⟨by (with_reducible repeat (first | refine kDN ?_ _ | refine kDr ?_ | refine kAl ?_ _)); exact BK148.out⟩, ⟨by repeat (first | (with_reducible first | exact HB.out | apply bAl | apply pbD | apply bD1 | refine bSt ?_ GE144.out | refine bSt ?_ GE148.out) | exact HB.out)⟩⟩
   rw [if_pos c14] at H
   have c14b0 : ((rdOf ByteArray.empty t149 x9_1).toList == (rdOf ByteArray.empty t145 0).toList) = true := beq_iff_eq.mpr c14
   have c14b1 : ((rdOf ByteArray.empty t149 x9_1).toList != (rdOf ByteArray.empty t145 0).toList) = false := bne_eq_false_iff_eq.mpr c14
   clear c14
   have H' := aK H
   clear H
   obtain ⟨Ao15, co15, eo15⟩ := Kd.R_slice HO_8.out
   subst eo15
   try go_wp2
   have n0_ := aK (Kd.R_drew HO_6.out)
   have n1_ := aK (Kd.R_drew HO_8.out)
   have n2_ := aK (kDr BK144.out)
   have n3_ := aK (kDr BK148.out)
   have n4_ := aK (bD1 HB.out)
   clear HO_6
   clear HO_8
   clear BK144
   clear BK148
   clear HB
   have HO_6 := n0_
   have HO_8 := n1_
   have BK144 := n2_
   have BK148 := n3_
   have HB := n4_
   clear n0_ n1_ n2_ n3_ n4_
   have p152 : 0 ≤ (x9_1 : Int) := odT (by first | (with_reducible assumption) | assumption)
   have q152 : x9_1 < (t149.length : Int) := odT (by first | (with_reducible assumption) | assumption)
   obtain ⟨ad152, e152, hx152_0⟩ := Kd.at_string (Kd.R_reads' HO_8.out).2.2 x9_1 p152 q152
   cases e152
   replace p152 := eq_true p152
   replace q152 := eq_true q152
   obtain ⟨Ao17, co17, eo17⟩ := Kd.R_slice HO_6.out
   (first | subst eo17 | (injection eo17 with f1_ f2_ f3_; have f4_ := f1_.symm; have f5_ := f3_.symm; clear f1_ f2_ f3_; subst f4_; subst f5_))
   have p153 : 0 ≤ (0 : Int) := (by omega)
   have q153 : 0 < (t145.length : Int) := odT (by first | (with_reducible assumption) | assumption)
   obtain ⟨ad153, e153, hx153_0⟩ := Kd.at_string (Kd.R_reads' HO_6.out).2.2 0 p153 q153
   cases e153
   have qi153 : (0 < t145.length) = True := eq_true (by omega)
   (try rw [show ((0 : Int)).toNat = 0 from rfl] at hx153_0)
   (try rw [Addr.add_zero'] at hx153_0)
   replace p153 := eq_true p153
   replace q153 := eq_true q153
   refine start_ (n := 8) (S := fun w' => w'.cell? (ad152.add (x9_1).toNat) = some (.string (rdOf ByteArray.empty t149 x9_1)) ∧ w'.cell? ad153 = some (.string (rdOf ByteArray.empty t145 0))) (ds := []) (bl 8 0) (by kernel_rfl) rfl (by kernel_rfl) ⟨hx152_0, hx153_0⟩ (fun hHeld => ?_); refine with_tabW r8_rule.tab7 r8_rule.bits7 (fun HT_ HW_ => ?_)
   generalize wr.drew = w16 at HO_6 HO_8 BK144 BK148 HB hx152_0 hx153_0 hHeld ⊢
   refine pV 0 23 (bl 8 1) HT_.out ?_
   refine pV 1 24 (bl 8 3) HT_.out ?_
   refine pV 2 25 (bl 8 7) HT_.out ?_
   refine pV 4 27 (bl 8 23) HT_.out ?_
   refine pV 5 28 (bl 8 55) HT_.out ?_
   refine tV 3 26 (bl 8 63) HT_.out HW_.out hHeld ?_ (hv := by rintro w' ⟨s0, s1⟩; go_simp; with_reducible rfl)
   refine tV 6 29 (bl 8 127) HT_.out HW_.out hHeld ?_ (hv := by rintro w' ⟨s0, s1⟩; go_simp; with_reducible rfl)
   refine pV 7 30 (bl 8 255) HT_.out ?_
   refine done_ (done_of HT_.out (by kernel_rfl)) ?_
   have hnb18 := NB148_144.out
   have hnc18 := NB144_148.out
   have hcz19_0 : w16.cell? ⟨gb148, 0, none⟩ = some (.int .i64 x149000_1) := (kCe BK148.out 0).trans rfl
   have hcz19_1 : w16.cell? ⟨gb148, 1, none⟩ = some (.string (⟨#[]⟩ : ByteArray)) := (kCe BK148.out 1).trans rfl
   have hcz19_2 : w16.cell? ⟨gb148, 2, none⟩ = some (.string (⟨#[]⟩ : ByteArray)) := (kCe BK148.out 2).trans rfl
   have hcz19_3 : w16.cell? ⟨gb148, 3, none⟩ = some (.int .i64 0) := (kCe BK148.out 3).trans rfl
   have hcz19_4 : w16.cell? ⟨gb148, 4, none⟩ = some (.int .i64 a1) := (kCe BK148.out 4).trans rfl
   have hfz19_0 := bFz BK148.out 0
   have hfz19_1 := bFz BK148.out 1
   have hfz19_2 := bFz BK148.out 2
   have hfz19_3 := bFz BK148.out 3
   have hfz19_4 := bFz BK148.out 4
   try go_wp2
   go_roundg k1
   case measure => have := HK1.out; omega
   case rel => exact ⟨(wrap64 (x9_1 + 1)), (x9_1), (by first | rfl | (simp; done) | (simp [*]; done)), H', ⟨by have := HK1.out; omega⟩, ⟨by (with_reducible repeat (first | apply Kd.R_alloc | apply Kd.R_drewN | apply Kd.R_drew)); exact Kd.R_mono (Kd.R_far (p := ⟨gb148, 0, none⟩) (Kd.R_types HO_6.out BK148.out (by decide)) (fun _ hk => hk.2) (.int .i64 x9_1)) (fun _ hk => hk.1)⟩, ⟨by (with_reducible repeat (first | apply Kd.R_alloc | apply Kd.R_drewN | apply Kd.R_drew)); exact Kd.R_mono (Kd.R_far (p := ⟨gb148, 0, none⟩) (Kd.R_types HO_8.out BK148.out (by decide)) (fun _ hk => hk.2) (.int .i64 x9_1)) (fun _ hk => hk.1)⟩, ⟨by (with_reducible repeat (first | refine kDN ?_ _ | refine kDr ?_ | refine kAl ?_ _)); refine blk_far ?_ NB144_148.out _; (with_reducible repeat (first | refine kDN ?_ _ | refine kDr ?_ | refine kAl ?_ _)); exact BK144.out⟩, ⟨by (with_reducible repeat (first | refine kDN ?_ _ | refine kDr ?_ | refine kAl ?_ _)); refine blk_put (cs := #[.int .i64 x149000_1, .string (⟨#[]⟩ : ByteArray), .string (⟨#[]⟩ : ByteArray), .int .i64 0, .int .i64 a1]) ?_ 0 _ rfl; (with_reducible repeat (first | refine kDN ?_ _ | refine kDr ?_ | refine kAl ?_ _)); exact BK148.out⟩, ⟨by repeat (first | (with_reducible first | exact HB.out | apply bAl | apply pbD | apply bD1 | refine bSt ?_ GE144.out | refine bSt ?_ GE148.out) | exact HB.out)⟩⟩
end Go.Proofs.Ytbpbniemjjhecaa.PChk
