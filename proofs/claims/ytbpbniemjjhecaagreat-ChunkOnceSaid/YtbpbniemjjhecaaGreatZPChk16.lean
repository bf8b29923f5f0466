import Derived.Test.YtbpbniemjjhecaaGreatZPChk0
import Derived.Test.YtbpbniemjjhecaaGreatZPChk8
import Derived.Test.YtbpbniemjjhecaaGreatZPChk14
import Derived.Test.YtbpbniemjjhecaaGreatZPChk15
namespace Go.Proofs.YtbpbniemjjhecaaGreat.PChk
open Go.RowKit Go.Proofs.YtbpbniemjjhecaaGreat.G Go.Proofs.YtbpbniemjjhecaaGreatW.PrintWords Go.Proofs.YtbpbniemjjhecaaGreatW.PrintLast Go.Proofs.YtbpbniemjjhecaaGreatW.PrintMore
attribute [local go_sem] max2_int min2_int max_two min_two max_three min_three max_four min_four
set_option linter.unusedVariables false
set_option linter.unusedSimpArgs false
set_option maxHeartbeats 8000000
set_option maxRecDepth 100000
mutual
def r8_rule.l0 : Nat → List ByteArray → List ByteArray → Int → Int → ByteArray → ByteArray → Int → Int → Option (Int × ByteArray × ByteArray × Int × Int × Bool)
 | 0, _, _, _, _, _, _, _, _ => none
 | k + 1, x6, x8, x9, x259000, x259001, x259002, x259003, x259004 => if x9 < (x8.length : Int) then (if 0 ≤ x9 then (if 0 < (x6.length : Int) then (if (rdOf ByteArray.empty x8 x9).toList = (rdOf ByteArray.empty x6 0).toList then (r8_rule.l0 k x6 x8 (wrap64 (x9 + 1)) x9 x259001 x259002 x259003 x259004) else (r8_rule.l0 k x6 x8 (wrap64 (x9 + 1)) x259000 x259001 x259002 x259003 x259004)) else (none)) else (none)) else (if x259000 = 0 then (r8_rule.j1 k x6 true x259000 x259001 x259002 x259003 x259004) else (if x259000 ≤ 5 then (if (x6.length : Int) = 4 then (if x259000 > 5 then (if (x6.length : Int) = 3 then (if 1 < (x6.length : Int) then ((r8_left.f k x259000 (rdOf ByteArray.empty x6 1)).bind fun t265 => (r8_rule.j1 k x6 (!t265) x259000 x259001 x259002 x259003 x259004)) else (none)) else (r8_rule.j1 k x6 true x259000 x259001 x259002 x259003 x259004)) else (if 1 < (x6.length : Int) then ((r8_left.f k x259000 (rdOf ByteArray.empty x6 1)).bind fun t267 => (r8_rule.j1 k x6 (!t267) x259000 x259001 x259002 x259003 x259004)) else (none))) else (r8_rule.j1 k x6 true x259000 x259001 x259002 x259003 x259004)) else (if x259000 > 5 then (if (x6.length : Int) = 3 then (if 1 < (x6.length : Int) then ((r8_left.f k x259000 (rdOf ByteArray.empty x6 1)).bind fun t269 => (r8_rule.j1 k x6 (!t269) x259000 x259001 x259002 x259003 x259004)) else (none)) else (r8_rule.j1 k x6 true x259000 x259001 x259002 x259003 x259004)) else (if 1 < (x6.length : Int) then ((r8_left.f k x259000 (rdOf ByteArray.empty x6 1)).bind fun t271 => (r8_rule.j1 k x6 (!t271) x259000 x259001 x259002 x259003 x259004)) else (none)))))
def r8_rule.j1 : Nat → List ByteArray → Bool → Int → ByteArray → ByteArray → Int → Int → Option (Int × ByteArray × ByteArray × Int × Int × Bool)
 | 0, _, _, _, _, _, _, _ => none
 | k + 1, x6, x64, x259000, x259001, x259002, x259003, x259004 => if x64 = true then (some (x259000, x259001, x259002, x259003, x259004, false)) else (if 2 < (x6.length : Int) then ((r2_Parse.f k (rdOf ByteArray.empty x6 2)).bind fun bt273 => (if bt273.2 ≥ 0 then (some (x259000, x259001, x259002, x259003, x259004, false)) else (if 1 < (x6.length : Int) then (if x259000 ≤ 5 then (if 3 < (x6.length : Int) then ((r8_digits.f k (rdOf ByteArray.empty x6 3)).bind fun t277 => (some (x259000, rdOf ByteArray.empty x6 1, bt273.1, t277, x259004, decide (t277 ≥ 0)))) else (none)) else (some (x259000, rdOf ByteArray.empty x6 1, bt273.1, x259003, x259004, decide (x259003 ≥ 0)))) else (none)))) else (none))
end
def r8_rule.f (k : Nat) (a0 : ByteArray) (a1 : Int) : Option (Int × ByteArray × ByteArray × Int × Int × Bool) := (r8_fields.f k a0).bind fun t255 => ((r8_Words.f).bind fun t259 => (r8_rule.l0 k t255 t259 1 0 (⟨#[]⟩ : ByteArray) (⟨#[]⟩ : ByteArray) 0 a1))
theorem r8_rule.mono_l : ∀ k, (∀ y0 y1 y2 y3 y4 y5 y6 y7, LeO (r8_rule.l0 k y0 y1 y2 y3 y4 y5 y6 y7) (r8_rule.l0 (k + 1) y0 y1 y2 y3 y4 y5 y6 y7)) ∧ (∀ y0 y1 y2 y3 y4 y5 y6, LeO (r8_rule.j1 k y0 y1 y2 y3 y4 y5 y6) (r8_rule.j1 (k + 1) y0 y1 y2 y3 y4 y5 y6))
 | 0 => ⟨fun _ _ _ _ _ _ _ _ r h => by simp [r8_rule.l0] at h, fun _ _ _ _ _ _ _ r h => by simp [r8_rule.j1] at h⟩
 | k + 1 => by
  obtain ⟨ih0, ih1⟩ := r8_rule.mono_l k
  refine ⟨?_, ?_⟩
  ·
   intro y0 y1 y2 y3 y4 y5 y6 y7
   unfold r8_rule.l0
   repeat' first
   | (with_reducible first | exact ih0 _ _ _ _ _ _ _ _ | exact ih1 _ _ _ _ _ _ _ | exact r2_Parse.mono _ _ | exact r8_digits.mono _ _ | exact r8_fields.mono _ _ | exact r8_left.mono _ _ _ | exact LeO.refl _ | exact LeO.none _ | refine LeO.ite ?_ ?_ | refine LeO.bind ?_ (fun _ => ?_))
   | exact ih0 _ _ _ _ _ _ _ _
   | exact ih1 _ _ _ _ _ _ _
   | exact r2_Parse.mono _ _
   | exact r8_digits.mono _ _
   | exact r8_fields.mono _ _
   | exact r8_left.mono _ _ _
   | exact LeO.none _
   | refine LeO.ite ?_ ?_
   | refine LeO.bind ?_ (fun _ => ?_)
  ·
   intro y0 y1 y2 y3 y4 y5 y6
   unfold r8_rule.j1
   repeat' first
   | (with_reducible first | exact ih0 _ _ _ _ _ _ _ _ | exact ih1 _ _ _ _ _ _ _ | exact r2_Parse.mono _ _ | exact r8_digits.mono _ _ | exact r8_fields.mono _ _ | exact r8_left.mono _ _ _ | exact LeO.refl _ | exact LeO.none _ | refine LeO.ite ?_ ?_ | refine LeO.bind ?_ (fun _ => ?_))
   | exact ih0 _ _ _ _ _ _ _ _
   | exact ih1 _ _ _ _ _ _ _
   | exact r2_Parse.mono _ _
   | exact r8_digits.mono _ _
   | exact r8_fields.mono _ _
   | exact r8_left.mono _ _ _
   | exact LeO.none _
   | refine LeO.ite ?_ ?_
   | refine LeO.bind ?_ (fun _ => ?_)
theorem r8_rule.mono : ∀ a0 a1 k, LeO (r8_rule.f k a0 a1) (r8_rule.f (k + 1) a0 a1) := by
 intro a0 a1 k
 obtain ⟨ih0, ih1⟩ := r8_rule.mono_l k
 unfold r8_rule.f
 repeat' first
   | (with_reducible first | exact ih0 _ _ _ _ _ _ _ _ | exact ih1 _ _ _ _ _ _ _ | exact r2_Parse.mono _ _ | exact r8_digits.mono _ _ | exact r8_fields.mono _ _ | exact r8_left.mono _ _ _ | exact LeO.refl _ | exact LeO.none _ | refine LeO.ite ?_ ?_ | refine LeO.bind ?_ (fun _ => ?_))
   | exact ih0 _ _ _ _ _ _ _ _
   | exact ih1 _ _ _ _ _ _ _
   | exact r2_Parse.mono _ _
   | exact r8_digits.mono _ _
   | exact r8_fields.mono _ _
   | exact r8_left.mono _ _ _
   | exact LeO.none _
   | refine LeO.ite ?_ ?_
   | refine LeO.bind ?_ (fun _ => ?_)
def r8_rule.T7 : Bool × List (List Nat × List Nat) := (true, [([], []), ([], []), ([0, 1], [0, 1]), ([2], [2]), ([], []), ([4], [4]), ([5], [5]), ([3, 6], [3, 6])])
def r8_rule.B7 : List Nat := [0, 0, 3, 7, 0, 16, 48, 127]
theorem r8_rule.tab7 : rtab .any (opsOf Tryz.f103 7) = r8_rule.T7 := by kernel_rfl
theorem r8_rule.bits7 : waitsOk r8_rule.T7.2 r8_rule.B7 = true := by kernel_rfl
def r8_rule.T9 : Bool × List (List Nat × List Nat) := (true, [([], []), ([0], [0]), ([1], [1]), ([2], [2]), ([3], [3]), ([4, 3], [3, 4]), ([5, 3], [3, 5]), ([6, 3, 3], [3, 6]), ([7], [7]), ([8, 7], [7, 8]), ([9, 7], [7, 9]), ([7, 10, 3], [3, 7, 10]), ([3, 11], [3, 11]), ([12, 7], [12]), ([13], [13]), ([14, 13], [13, 14]), ([15, 13], [13, 15]), ([16, 13, 13], [13, 16]), ([17], [17]), ([18, 17], [17, 18]), ([19, 17], [17, 19]), ([17, 20, 13], [13, 17, 20]), ([13, 21], [13, 21]), ([22, 17], [22]), ([23], [23]), ([24, 23], [23, 24]), ([23], [23]), ([26, 23], [23, 26]), ([27, 23], [23, 27]), ([25, 28, 23, 23], [23, 25, 28]), ([29, 23], [23, 29]), ([23, 30], [23, 30])])
def r8_rule.B9 : List Nat := [0, 1, 3, 7, 15, 31, 63, 127, 255, 511, 1023, 2047, 4095, 8191, 16383, 32767, 65535, 131071, 262143, 524287, 1048575, 2097151, 4194303, 8388607, 16777215, 33554431, 16777215, 83886079, 218103807, 536870911, 1073741823, 2147483647]
theorem r8_rule.tab9 : rtab .any (opsOf Tryz.f103 9) = r8_rule.T9 := by kernel_rfl
theorem r8_rule.bits9 : waitsOk r8_rule.T9.2 r8_rule.B9 = true := by kernel_rfl
theorem r8_rule.calls (k : Nat) (a0 : ByteArray) (a1 : Int) (r1 : Int) (r2 : ByteArray) (r3 : ByteArray) (r4 : Int) (r5 : Int) (r6 : Bool) (w : World) (h : r8_rule.f k a0 a1 = some (r1, r2, r3, r4, r5, r6)) :
  Calls Tryz.prog 103 #[.string a0, .int .i64 a1] w fun e w' => e = .returned (.tuple #[.agg #[.int .i64 r1, .string r2, .string r3, .int .i64 r4, .int .i64 r5], .bool r6]) ∧ Below w.heap.size w w' := by
 have hu50 := Tryz.underlying50
 have HB := aK (Below.refl w.heap.size w)
 have H : ((r8_fields.f k a0).bind fun t255 => ((r8_Words.f).bind fun t259 => (r8_rule.l0 k t255 t259 1 0 (⟨#[]⟩ : ByteArray) (⟨#[]⟩ : ByteArray) 0 a1))) = some (r1, r2, r3, r4, r5, r6) := h
 clear h
 obtain ⟨t255, A3, H⟩ := oC H
 try dsimp only at H
 obtain ⟨t259, A4, H⟩ := oC H
 try dsimp only at H
 have H' := aK H
 clear H
 go_enter Tryz.func103, Tryz.ntmps103
 go_wp2_with (first | ((with_reducible refine gate_dst (N := 4) rfl ?_); (try (refine gate_guard (by rfl) ?_; dsimp only)); refine box_event ?hg (N := 4) ?hd (cs := #[.int .i64 0, .string (⟨#[]⟩ : ByteArray), .string (⟨#[]⟩ : ByteArray), .int .i64 0, .int .i64 0]) (t := 50) ?hr ?_; (case hd => rfl); (case hg => rfl); (case hr => first | (go_simp; done) | (go_simp; rfl)); intro gb254 hg w5 hbox hb; have n0_ := aK (bSp bX hb); have n1_ := aK (hbox); have n2_ := aK ((by rw [hg]; exact (bSz bX) : w.heap.size ≤ gb254)); have n3_ := aK ((by rw [hg]; exact (bSz bX) : w.heap.size ≤ gb254)); clear HB; have HB := n0_; have BK254 := n1_; have GW254 := n2_; have GE254 := n3_; clear n0_ n1_ n2_ n3_; clear hb hbox hg) | ((with_reducible refine gate_callee (f := 125) rfl ?_); refine gO 13 Tryz.func125 #[.string a0] ?_; (with_reducible refine (r8_fields.calls k a0 t255 _ A3.out).mono ?_); rintro e w6 ⟨v256, rfl, ho0, hb⟩; refine ⟨_, rfl, ?_⟩; have HO257 := aK (Kd.R_lower ho0 (bSz (bX1 GE254.out))); replace BK254 := aK (kBe (g := gb254) (o := .cells #[.int .i64 0, .string (⟨#[]⟩ : ByteArray), .string (⟨#[]⟩ : ByteArray), .int .i64 0, .int .i64 0] 50 (0, 0)) (kX BK254.out) hb); replace HB := aK (bSp (bX1 GE254.out) hb); clear hb; clear ho0) | ((with_reducible refine gate_dst (N := 7) rfl ?_); (try (refine gate_guard (by rfl) ?_; dsimp only)); refine box_event ?hg (N := 7) ?hd (cs := #[.int .i64 0, .string (⟨#[]⟩ : ByteArray), .string (⟨#[]⟩ : ByteArray), .int .i64 0, .int .i64 0]) (t := 50) ?hr ?_; (case hd => rfl); (case hg => rfl); (case hr => first | (go_simp; done) | (go_simp; rfl)); intro gb258 hg w7 hbox hb; have n0_ := aK (Kd.R_below (rX HO257.out) hb); have n1_ := aK (kBe (g := gb254) (o := .cells #[.int .i64 0, .string (⟨#[]⟩ : ByteArray), .string (⟨#[]⟩ : ByteArray), .int .i64 0, .int .i64 0] 50 (0, 0)) (kX BK254.out) hb); have n2_ := aK (bSp (bX1 GE254.out) hb); have n3_ := aK (hbox); have n4_ := aK ((by rw [hg]; exact (bSz (bX1 GE254.out)) : w.heap.size ≤ gb258)); have n5_ := aK ((by rw [hg]; exact (bSz (bX1 GE254.out)) : w.heap.size ≤ gb258)); have n6_ := aK ((by rw [hg]; exact Nat.ne_of_lt (blk_lt (g := gb254) (o := .cells #[.int .i64 0, .string (⟨#[]⟩ : ByteArray), .string (⟨#[]⟩ : ByteArray), .int .i64 0, .int .i64 0] 50 (0, 0)) (kX BK254.out)) : gb254 ≠ gb258)); have n7_ := aK ((by rw [hg]; exact Nat.ne_of_gt (blk_lt (g := gb254) (o := .cells #[.int .i64 0, .string (⟨#[]⟩ : ByteArray), .string (⟨#[]⟩ : ByteArray), .int .i64 0, .int .i64 0] 50 (0, 0)) (kX BK254.out)) : gb258 ≠ gb254)); clear HO257; clear BK254; clear HB; have HO257 := n0_; have BK254 := n1_; have HB := n2_; have BK258 := n3_; have GW258 := n4_; have GE258 := n5_; have NB254_258 := n6_; have NB258_254 := n7_; clear n0_ n1_ n2_ n3_ n4_ n5_ n6_ n7_; clear hb hbox hg; have hnb8 := NB258_254.out; have hnc8 := NB254_258.out; have hcz9_0 : w7.cell? ⟨gb258, 0, none⟩ = some (.int .i64 0) := (kCe BK258.out 0).trans rfl; have hcz9_1 : w7.cell? ⟨gb258, 1, none⟩ = some (.string (⟨#[]⟩ : ByteArray)) := (kCe BK258.out 1).trans rfl; have hcz9_2 : w7.cell? ⟨gb258, 2, none⟩ = some (.string (⟨#[]⟩ : ByteArray)) := (kCe BK258.out 2).trans rfl; have hcz9_3 : w7.cell? ⟨gb258, 3, none⟩ = some (.int .i64 0) := (kCe BK258.out 3).trans rfl; have hcz9_4 : w7.cell? ⟨gb258, 4, none⟩ = some (.int .i64 0) := (kCe BK258.out 4).trans rfl; have hfz9_0 := bFz BK258.out 0; have hfz9_1 := bFz BK258.out 1; have hfz9_2 := bFz BK258.out 2; have hfz9_3 := bFz BK258.out 3; have hfz9_4 := bFz BK258.out 4) | ((with_reducible refine gate_callee (f := 126) rfl ?_); refine gO 16 Tryz.func126 #[] ?_; (with_reducible refine (r8_Words.calls  t259 _ A4.out).mono ?_); rintro e w10 ⟨v260, rfl, ho0, hb⟩; refine ⟨_, rfl, ?_⟩; have n0_ := aK (Kd.R_elder' (by (with_reducible repeat (first | apply Kd.R_alloc | apply Kd.R_drewN | apply Kd.R_drew)); exact (Kd.R_mono (Kd.R_far (p := ⟨gb258, 4, none⟩) (Kd.R_far (p := ⟨gb258, 3, none⟩) (Kd.R_far (p := ⟨gb258, 2, none⟩) (Kd.R_far (p := ⟨gb258, 1, none⟩) (Kd.R_far (p := ⟨gb258, 0, none⟩) (Kd.R_types HO257.out BK258.out (by decide)) (fun _ hk => hk.2) (.int .i64 0)) (fun _ hk => hk.2) (.string (⟨#[]⟩ : ByteArray))) (fun _ hk => hk.2) (.string (⟨#[]⟩ : ByteArray))) (fun _ hk => hk.2) (.int .i64 0)) (fun _ hk => hk.2) (.int .i64 a1)) (fun _ h_ => h_.1))) (Kd.R_base ho0) hb); have n1_ := aK (Kd.R_lower (Kd.R_new' ho0 (Kd.R_lt (by (with_reducible repeat (first | apply Kd.R_alloc | apply Kd.R_drewN | apply Kd.R_drew)); exact (Kd.R_mono (Kd.R_far (p := ⟨gb258, 4, none⟩) (Kd.R_far (p := ⟨gb258, 3, none⟩) (Kd.R_far (p := ⟨gb258, 2, none⟩) (Kd.R_far (p := ⟨gb258, 1, none⟩) (Kd.R_far (p := ⟨gb258, 0, none⟩) (Kd.R_types HO257.out BK258.out (by decide)) (fun _ hk => hk.2) (.int .i64 0)) (fun _ hk => hk.2) (.string (⟨#[]⟩ : ByteArray))) (fun _ hk => hk.2) (.string (⟨#[]⟩ : ByteArray))) (fun _ hk => hk.2) (.int .i64 0)) (fun _ hk => hk.2) (.int .i64 a1)) (fun _ h_ => h_.1))))) (bSz (bX2 GE254.out GE258.out))); have n2_ := aK (kBe (g := gb254) (o := .cells #[.int .i64 0, .string (⟨#[]⟩ : ByteArray), .string (⟨#[]⟩ : ByteArray), .int .i64 0, .int .i64 0] 50 (0, 0)) (by (with_reducible repeat (first | refine kDN ?_ _ | refine kDr ?_ | refine kAl ?_ _)); refine blk_far ?_ NB254_258.out _; (with_reducible repeat (first | refine kDN ?_ _ | refine kDr ?_ | refine kAl ?_ _)); refine blk_far ?_ NB254_258.out _; (with_reducible repeat (first | refine kDN ?_ _ | refine kDr ?_ | refine kAl ?_ _)); refine blk_far ?_ NB254_258.out _; (with_reducible repeat (first | refine kDN ?_ _ | refine kDr ?_ | refine kAl ?_ _)); refine blk_far ?_ NB254_258.out _; (with_reducible repeat (first | refine kDN ?_ _ | refine kDr ?_ | refine kAl ?_ _)); refine blk_far ?_ NB254_258.out _; (with_reducible repeat (first | refine kDN ?_ _ | refine kDr ?_ | refine kAl ?_ _)); exact BK254.out) hb); have n3_ := aK (kBe (g := gb258) (o := .cells #[.int .i64 0, .string (⟨#[]⟩ : ByteArray), .string (⟨#[]⟩ : ByteArray), .int .i64 0, .int .i64 a1] 50 (0, 0)) (by (with_reducible repeat (first | refine kDN ?_ _ | refine kDr ?_ | refine kAl ?_ _)); refine blk_put (cs := #[.int .i64 0, .string (⟨#[]⟩ : ByteArray), .string (⟨#[]⟩ : ByteArray), .int .i64 0, .int .i64 0]) ?_ 4 _ rfl; (with_reducible repeat (first | refine kDN ?_ _ | refine kDr ?_ | refine kAl ?_ _)); refine blk_put (cs := #[.int .i64 0, .string (⟨#[]⟩ : ByteArray), .string (⟨#[]⟩ : ByteArray), .int .i64 0, .int .i64 0]) ?_ 3 _ rfl; (with_reducible repeat (first | refine kDN ?_ _ | refine kDr ?_ | refine kAl ?_ _)); refine blk_put (cs := #[.int .i64 0, .string (⟨#[]⟩ : ByteArray), .string (⟨#[]⟩ : ByteArray), .int .i64 0, .int .i64 0]) ?_ 2 _ rfl; (with_reducible repeat (first | refine kDN ?_ _ | refine kDr ?_ | refine kAl ?_ _)); refine blk_put (cs := #[.int .i64 0, .string (⟨#[]⟩ : ByteArray), .string (⟨#[]⟩ : ByteArray), .int .i64 0, .int .i64 0]) ?_ 1 _ rfl; (with_reducible repeat (first | refine kDN ?_ _ | refine kDr ?_ | refine kAl ?_ _)); refine blk_put (cs := #[.int .i64 0, .string (⟨#[]⟩ : ByteArray), .string (⟨#[]⟩ : ByteArray), .int .i64 0, .int .i64 0]) ?_ 0 _ rfl; (with_reducible repeat (first | refine kDN ?_ _ | refine kDr ?_ | refine kAl ?_ _)); exact BK258.out) hb); have n4_ := aK (bSp (bX2 GE254.out GE258.out) hb); clear HO257; clear BK254; clear BK258; clear HB; have HO257 := n0_; have HO261 := n1_; have BK254 := n2_; have BK258 := n3_; have HB := n4_; clear n0_ n1_ n2_ n3_ n4_; clear hb; (try clear hk); clear ho0))
 go_loopg [9] k (fun kq v9 w' => ∃ (x9_1 : Int) (x259000_1 : Int), v9 = .int .i64 x9_1 ∧ Aside0 (r8_rule.l0 kq t255 t259 x9_1 x259000_1 (⟨#[]⟩ : ByteArray) (⟨#[]⟩ : ByteArray) 0 a1 = some (r1, r2, r3, r4, r5, r6)) ∧ Aside0 (kq ≤ k) ∧ Aside0 (Kd.R Kd.string 9 w' w.heap.size (fun k_ => some k_ ≠ (v260 : Value).ownBlock) v256 t255) ∧ Aside0 (Kd.R Kd.string 9 w' w.heap.size (fun k_ => some k_ ≠ (v256 : Value).ownBlock) v260 t259) ∧ Aside0 (w'.heap[gb254]? = some (.cells #[.int .i64 0, .string (⟨#[]⟩ : ByteArray), .string (⟨#[]⟩ : ByteArray), .int .i64 0, .int .i64 0] 50 (0, 0))) ∧ Aside0 (w'.heap[gb258]? = some (.cells #[.int .i64 x259000_1, .string (⟨#[]⟩ : ByteArray), .string (⟨#[]⟩ : ByteArray), .int .i64 0, .int .i64 a1] 50 (0, 0))) ∧ Aside0 (Below w.heap.size w w'))
 case atStart => exact ⟨(1), (0), sX, H', ⟨Nat.le_refl _⟩, ⟨by (with_reducible repeat (first | apply Kd.R_alloc | apply Kd.R_drewN | apply Kd.R_drew)); exact Kd.R_mono HO257.out (fun _ hk => hk.2)⟩, ⟨by (with_reducible repeat (first | apply Kd.R_alloc | apply Kd.R_drewN | apply Kd.R_drew)); exact Kd.R_mono HO261.out (fun _ hk => hk.2)⟩, ⟨kX BK254.out⟩, ⟨kX BK258.out⟩, ⟨bX2 GE254.out GE258.out⟩⟩
 case round =>
  clear H'
  try clear c1
  try clear p2
  try clear c8
  try clear c10
  try clear hcz9_0
  try clear hcz9_1
  try clear hcz9_2
  try clear hcz9_3
  try clear hcz9_4
  try clear hfz9_0
  try clear hfz9_1
  try clear hfz9_2
  try clear hfz9_3
  try clear hfz9_4
  obtain ⟨x9_1, x259000_1, rfl, HA, HK1, HO_6, HO_8, BK254, BK258, HB⟩ := hrel
  cases gk with
  | zero => exact absurd HA.out (by simp [r8_rule.l0])
  | succ k1 =>
   have H := HA.out; clear HA
   simp only [r8_rule.l0] at H
   by_cases c11 : x9_1 < (t259.length : Int)
   rotate_left
   ·
    rw [if_neg c11] at H; have c11b0 : decide (x9_1 < (t259.length : Int)) = false := decide_eq_false c11; clear c11; have HC23 := aK H; clear H
    obtain ⟨Ao24, co24, eo24⟩ := Kd.R_slice HO_8.out
    subst eo24
    go_upto_region 9 with (fail)
    go_cut [64] (fun v64 wc => ∃ (kq : Nat) (x64_22 : Bool), v64 = .bool x64_22 ∧ Aside0 (r8_rule.j1 kq t255 x64_22 x259000_1 (⟨#[]⟩ : ByteArray) (⟨#[]⟩ : ByteArray) 0 a1 = some (r1, r2, r3, r4, r5, r6)) ∧ Aside0 (kq ≤ k1) ∧ Aside0 (Kd.R Kd.string 9 wc w.heap.size (fun _ => True) v256 t255) ∧ Aside0 (wc.heap[gb254]? = some (.cells #[.int .i64 0, .string (⟨#[]⟩ : ByteArray), .string (⟨#[]⟩ : ByteArray), .int .i64 0, .int .i64 0] 50 (0, 0))) ∧ Aside0 (wc.heap[gb258]? = some (.cells #[.int .i64 x259000_1, .string (⟨#[]⟩ : ByteArray), .string (⟨#[]⟩ : ByteArray), .int .i64 0, .int .i64 a1] 50 (0, 0))) ∧ Aside0 (Below w.heap.size w wc))
    case first =>
     have H := HC23.out; clear HC23
     by_cases c25 : x259000_1 = 0
     rotate_left
     ·
      rw [if_neg c25] at H; obtain ⟨c25b0, c25b1⟩ := bN c25
      (first | rw [c25b0] | (simp only [i64_w, i32_w]; rw [c25b0]) | skip)
      by_cases c27 : x259000_1 ≤ 5
      rotate_left
      ·
       rw [if_neg c27] at H; have c27b0 : decide (x259000_1 ≤ 5) = false := decide_eq_false c27; clear c27
       by_cases c45 : x259000_1 > 5
       rotate_left
       ·
        rw [if_neg c45] at H; have c45b0 : decide (5 < x259000_1) = false := decide_eq_false c45; clear c45
        by_cases c54 : 1 < (t255.length : Int)
        rotate_left
        ·
         rw [if_neg c54] at H
         exact absurd H (by simp)
        rw [if_pos c54] at H; have c54b0 : decide (1 < (t255.length : Int)) = true := decide_eq_true c54
        have c54b1 : decide (1 < t255.length) = true := decide_eq_true (by omega)
        clear c54; obtain ⟨t271, A55, H⟩ := oC H
        try dsimp only at H
        have H' := aK H; clear H
        try go_wp2
        have n0_ := aK (Kd.R_drew HO_6.out)
        have n1_ := aK (Kd.R_drew HO_8.out)
        have n2_ := aK (kDr BK254.out)
        have n3_ := aK (kDr BK258.out)
        have n4_ := aK (bD1 HB.out)
        clear HO_6; clear HO_8; clear BK254; clear BK258; clear HB
        have HO_6 := n0_
        have HO_8 := n1_
        have BK254 := n2_
        have BK258 := n3_
        have HB := n4_
        clear n0_ n1_ n2_ n3_ n4_
        obtain ⟨Ao57, co57, eo57⟩ := Kd.R_slice HO_6.out
        (first | subst eo57 | (injection eo57 with f1_ f2_ f3_; have f4_ := f1_.symm; have f5_ := f3_.symm; clear f1_ f2_ f3_; subst f4_; subst f5_))
        have p270 : 0 ≤ (1 : Int) := (by omega)
        have q270 : 1 < (t255.length : Int) := oA
        obtain ⟨ad270, e270, hx270_0⟩ := Kd.at_string (Kd.R_reads' HO_6.out).2.2 1 p270 q270
        cases e270
        (try simp only [show (1 : Int).toNat = 1 from rfl, Nat.reduceMul, Nat.reduceEqDiff, Go.Addr.add, ↓reduceIte] at hx270_0)
        have qi270 : (1 < t255.length) = True := eq_true (by omega)
        (try rw [show ((1 : Int)).toNat = 1 from rfl] at hx270_0)
        replace p270 := eq_true p270; replace q270 := eq_true q270
        refine start_ (n := 32) (S := fun w' => w'.cell? ⟨gb258, 0, none⟩ = some (.int .i64 x259000_1) ∧ w'.cell? ⟨gb258, 1, none⟩ = some (.string (⟨#[]⟩ : ByteArray)) ∧ w'.cell? ⟨gb258, 2, none⟩ = some (.string (⟨#[]⟩ : ByteArray)) ∧ w'.cell? ⟨gb258, 3, none⟩ = some (.int .i64 0) ∧ w'.cell? ⟨gb258, 4, none⟩ = some (.int .i64 a1) ∧ w'.cell? ⟨ad270.block, ad270.off + 1, none⟩ = some (.string (rdOf ByteArray.empty t255 1))) (ds := []) (bl 32 0) (by kernel_rfl) rfl (by kernel_rfl) ⟨(kCe BK258.out 0).trans rfl, (kCe BK258.out 1).trans rfl, (kCe BK258.out 2).trans rfl, (kCe BK258.out 3).trans rfl, (kCe BK258.out 4).trans rfl, hx270_0⟩ (fun hHeld => ?_); refine with_tabW r8_rule.tab9 r8_rule.bits9 (fun HT_ HW_ => ?_)
        generalize wr.drew = w56 at HO_6 HO_8 BK254 BK258 HB hx270_0 hHeld ⊢
        refine pV 0 33 (bl 32 1) HT_.out ?_
        refine tV 1 34 (bl 32 3) HT_.out HW_.out hHeld ?_ (hv := by rintro w' ⟨s0, s1, s2, s3, s4, s5⟩; go_simp; with_reducible rfl)
        refine pV 2 35 (bl 32 7) HT_.out ?_
        refine pV 3 36 (bl 32 15) HT_.out ?_
        refine pV 4 37 (bl 32 31) HT_.out ?_
        refine tV 5 38 (bl 32 63) HT_.out HW_.out hHeld ?_ (hv := by rintro w' ⟨s0, s1, s2, s3, s4, s5⟩; go_simp; with_reducible rfl)
        refine pV 6 39 (bl 32 127) HT_.out ?_
        refine pV 7 40 (bl 32 255) HT_.out ?_
        refine pU 8 41 (bl 32 511) HT_.out ?_
        refine pU 9 42 (bl 32 1023) HT_.out ?_
        refine pU 10 43 (bl 32 2047) HT_.out ?_
        refine pV 11 44 (bl 32 4095) HT_.out ?_
        refine pV 12 45 (bl 32 8191) HT_.out ?_
        refine pV 13 46 (bl 32 16383) HT_.out ?_
        refine pV 14 47 (bl 32 32767) HT_.out ?_
        refine tV 15 48 (bl 32 65535) HT_.out HW_.out hHeld ?_ (hv := by rintro w' ⟨s0, s1, s2, s3, s4, s5⟩; go_simp; with_reducible rfl)
        refine pV 16 49 (bl 32 131071) HT_.out ?_
        refine pV 17 50 (bl 32 262143) HT_.out ?_
        refine pU 18 51 (bl 32 524287) HT_.out ?_
        refine pU 19 52 (bl 32 1048575) HT_.out ?_
        refine pU 20 53 (bl 32 2097151) HT_.out ?_
        refine pV 21 54 (bl 32 4194303) HT_.out ?_
        refine pV 22 55 (bl 32 8388607) HT_.out ?_
        refine pV 23 56 (bl 32 16777215) HT_.out ?_
        refine pV 24 57 (bl 32 33554431) HT_.out ?_
        refine pV 26 59 (bl 32 100663295) HT_.out ?_
        refine pV 27 60 (bl 32 234881023) HT_.out ?_
        refine tV 25 58 (bl 32 268435455) HT_.out HW_.out hHeld ?_ (hv := by rintro w' ⟨s0, s1, s2, s3, s4, s5⟩; go_simp; with_reducible rfl)
        refine tV 28 61 (bl 32 536870911) HT_.out HW_.out hHeld ?_ (hv := by rintro w' ⟨s0, s1, s2, s3, s4, s5⟩; go_simp; with_reducible rfl)
        refine one_ (i := 29) (N := some 62) (bl 32 1073741823) rfl rfl (one_of HT_.out (by kernel_rfl)) (by decide) (fun K hK => ?_)
        refine goes_ Tryz.func104 (by kernel_rfl) rfl #[.int .i64 x259000_1, .string (rdOf ByteArray.empty t255 1)] (by rfl) rfl rfl (by (try simp only [qM0, qM1, qM2]); first | done | rfl | (simp only [qD0, qD1]; rfl)) ?_
        with_reducible refine (r8_left.calls k1 x259000_1 (rdOf ByteArray.empty t255 1) t271 _ A55.out).mono ?_
        rintro e w58 ⟨rfl, hb⟩
        have HS5_ := (hb.cell (World.block_lt_of_cell? _ _ (hHeld.2.2.2.2.2))).trans (hHeld.2.2.2.2.2)
        refine ⟨_, rfl, ?_⟩
        have n0_ := aK (Kd.R_below (rX HO_6.out) hb)
        have n1_ := aK (Kd.R_below (rX HO_8.out) hb)
        have n2_ := aK (kBe (g := gb254) (o := .cells #[.int .i64 0, .string (⟨#[]⟩ : ByteArray), .string (⟨#[]⟩ : ByteArray), .int .i64 0, .int .i64 0] 50 (0, 0)) (kX BK254.out) hb)
        have n3_ := aK (kBe (g := gb258) (o := .cells #[.int .i64 x259000_1, .string (⟨#[]⟩ : ByteArray), .string (⟨#[]⟩ : ByteArray), .int .i64 0, .int .i64 a1] 50 (0, 0)) (kX BK258.out) hb)
        have n4_ := aK (bSp (bX2 GE254.out GE258.out) hb)
        clear HO_6; clear HO_8; clear BK254; clear BK258; clear HB
        have HO_6 := n0_
        have HO_8 := n1_
        have BK254 := n2_
        have BK258 := n3_
        have HB := n4_
        clear n0_ n1_ n2_ n3_ n4_
        (try clear hb)
        (try clear hb2)
        (try clear hk)
        (try clear hi)
        refine hK.out _ _ ⟨(kCe BK258.out 0).trans rfl, (kCe BK258.out 1).trans rfl, (kCe BK258.out 2).trans rfl, (kCe BK258.out 3).trans rfl, (kCe BK258.out 4).trans rfl, HS5_⟩ (fun hHeld => ?_)
        clear hK K
        refine norm_ (a' := ?_) ?_ ?_
        rotate_left
        ·
         show Act.put _ (some 62) _ = _
         simp only [Act.put, qSa, qS0, qS1, i64_w, i32_w]
         rfl
        refine pV 30 63 (bl 32 2147483647) HT_.out ?_
        refine pV 31 64 (bl 32 4294967295) HT_.out ?_
        refine done_ (done_of HT_.out (by kernel_rfl)) ?_
        try go_wp2
        go_meet
        case rel => exact ⟨_, (!t271), sX, H', ⟨by have := HK1.out; first | omega | exact Nat.le_refl _⟩, ⟨by (with_reducible repeat (first | apply Kd.R_alloc | apply Kd.R_drewN | apply Kd.R_drew)); exact Kd.R_mono HO_6.out (fun _ hk => trivial)⟩, ⟨kX BK254.out⟩, ⟨kX BK258.out⟩, ⟨bX2 GE254.out GE258.out⟩⟩
       rw [if_pos c45] at H; have c45b0 : decide (5 < x259000_1) = true := decide_eq_true c45; clear c45
       by_cases c46 : (t255.length : Int) = 3
       rotate_left
       ·
        rw [if_neg c46] at H; obtain ⟨c46b0, c46b1⟩ := bN c46; have H' := aK H; clear H
        try go_wp2
        have n0_ := aK (Kd.R_drew HO_6.out)
        have n1_ := aK (Kd.R_drew HO_8.out)
        have n2_ := aK (kDr BK254.out)
        have n3_ := aK (kDr BK258.out)
        have n4_ := aK (bD1 HB.out)
        clear HO_6; clear HO_8; clear BK254; clear BK258; clear HB
        have HO_6 := n0_
        have HO_8 := n1_
        have BK254 := n2_
        have BK258 := n3_
        have HB := n4_
        clear n0_ n1_ n2_ n3_ n4_
        obtain ⟨Ao53, co53, eo53⟩ := Kd.R_slice HO_6.out
        (first | subst eo53 | (injection eo53 with f1_ f2_ f3_; have f4_ := f1_.symm; have f5_ := f3_.symm; clear f1_ f2_ f3_; subst f4_; subst f5_))
        refine start_ (n := 32) (S := fun w' => w'.cell? ⟨gb258, 0, none⟩ = some (.int .i64 x259000_1) ∧ w'.cell? ⟨gb258, 1, none⟩ = some (.string (⟨#[]⟩ : ByteArray)) ∧ w'.cell? ⟨gb258, 2, none⟩ = some (.string (⟨#[]⟩ : ByteArray)) ∧ w'.cell? ⟨gb258, 3, none⟩ = some (.int .i64 0) ∧ w'.cell? ⟨gb258, 4, none⟩ = some (.int .i64 a1)) (ds := []) (bl 32 0) (by kernel_rfl) rfl (by kernel_rfl) ⟨(kCe BK258.out 0).trans rfl, (kCe BK258.out 1).trans rfl, (kCe BK258.out 2).trans rfl, (kCe BK258.out 3).trans rfl, (kCe BK258.out 4).trans rfl⟩ (fun hHeld => ?_); refine with_tabW r8_rule.tab9 r8_rule.bits9 (fun HT_ HW_ => ?_)
        generalize wr.drew = w52 at HO_6 HO_8 BK254 BK258 HB hHeld ⊢
        refine pV 0 33 (bl 32 1) HT_.out ?_
        refine tV 1 34 (bl 32 3) HT_.out HW_.out hHeld ?_ (hv := by rintro w' ⟨s0, s1, s2, s3, s4⟩; go_simp; with_reducible rfl)
        refine pV 2 35 (bl 32 7) HT_.out ?_
        refine pV 3 36 (bl 32 15) HT_.out ?_
        refine pV 4 37 (bl 32 31) HT_.out ?_
        refine tV 5 38 (bl 32 63) HT_.out HW_.out hHeld ?_ (hv := by rintro w' ⟨s0, s1, s2, s3, s4⟩; go_simp; with_reducible rfl)
        refine pV 6 39 (bl 32 127) HT_.out ?_
        refine pV 7 40 (bl 32 255) HT_.out ?_
        refine pU 8 41 (bl 32 511) HT_.out ?_
        refine pU 9 42 (bl 32 1023) HT_.out ?_
        refine pU 10 43 (bl 32 2047) HT_.out ?_
        refine pV 11 44 (bl 32 4095) HT_.out ?_
        refine pV 12 45 (bl 32 8191) HT_.out ?_
        refine pV 13 46 (bl 32 16383) HT_.out ?_
        refine pV 14 47 (bl 32 32767) HT_.out ?_
        refine tV 15 48 (bl 32 65535) HT_.out HW_.out hHeld ?_ (hv := by rintro w' ⟨s0, s1, s2, s3, s4⟩; go_simp; with_reducible rfl)
        refine pV 16 49 (bl 32 131071) HT_.out ?_
        refine pV 17 50 (bl 32 262143) HT_.out ?_
        refine pV 18 51 (bl 32 524287) HT_.out ?_
        refine pV 19 52 (bl 32 1048575) HT_.out ?_
        refine pV 20 53 (bl 32 2097151) HT_.out ?_
        refine pV 21 54 (bl 32 4194303) HT_.out ?_
        refine pV 22 55 (bl 32 8388607) HT_.out ?_
        refine pV 23 56 (bl 32 16777215) HT_.out ?_
        refine pU 24 57 (bl 32 33554431) HT_.out ?_
        refine pU 25 58 (bl 32 67108863) HT_.out ?_
        refine pU 26 59 (bl 32 134217727) HT_.out ?_
        refine pU 27 60 (bl 32 268435455) HT_.out ?_
        refine pU 28 61 (bl 32 536870911) HT_.out ?_
        refine pU 29 62 (bl 32 1073741823) HT_.out ?_
        refine pU 30 63 (bl 32 2147483647) HT_.out ?_
        refine pV 31 64 (bl 32 4294967295) HT_.out ?_
        refine done_ (done_of HT_.out (by kernel_rfl)) ?_
        try go_wp2
        go_meet
        case rel => exact ⟨_, (true), sX, H', ⟨by have := HK1.out; first | omega | exact Nat.le_refl _⟩, ⟨by (with_reducible repeat (first | apply Kd.R_alloc | apply Kd.R_drewN | apply Kd.R_drew)); exact Kd.R_mono HO_6.out (fun _ hk => trivial)⟩, ⟨kX BK254.out⟩, ⟨kX BK258.out⟩, ⟨bX2 GE254.out GE258.out⟩⟩
       rw [if_pos c46] at H; obtain ⟨c46b0, c46b1⟩ := bY c46; clear c46
       by_cases c47 : 1 < (t255.length : Int)
       rotate_left
       ·
        rw [if_neg c47] at H
        exact absurd H (by simp)
       rw [if_pos c47] at H; have c47b0 : decide (1 < (t255.length : Int)) = true := decide_eq_true c47
       have c47b1 : decide (1 < t255.length) = true := decide_eq_true (by omega)
       clear c47; obtain ⟨t269, A48, H⟩ := oC H
       try dsimp only at H
       have H' := aK H; clear H
       try go_wp2
       have n0_ := aK (Kd.R_drew HO_6.out)
       have n1_ := aK (Kd.R_drew HO_8.out)
       have n2_ := aK (kDr BK254.out)
       have n3_ := aK (kDr BK258.out)
       have n4_ := aK (bD1 HB.out)
       clear HO_6; clear HO_8; clear BK254; clear BK258; clear HB
       have HO_6 := n0_
       have HO_8 := n1_
       have BK254 := n2_
       have BK258 := n3_
       have HB := n4_
       clear n0_ n1_ n2_ n3_ n4_
       obtain ⟨Ao50, co50, eo50⟩ := Kd.R_slice HO_6.out
       (first | subst eo50 | (injection eo50 with f1_ f2_ f3_; have f4_ := f1_.symm; have f5_ := f3_.symm; clear f1_ f2_ f3_; subst f4_; subst f5_))
       have p268 : 0 ≤ (1 : Int) := (by omega)
       have q268 : 1 < (t255.length : Int) := oA
       obtain ⟨ad268, e268, hx268_0⟩ := Kd.at_string (Kd.R_reads' HO_6.out).2.2 1 p268 q268
       cases e268
       (try simp only [show (1 : Int).toNat = 1 from rfl, Nat.reduceMul, Nat.reduceEqDiff, Go.Addr.add, ↓reduceIte] at hx268_0)
       have qi268 : (1 < t255.length) = True := eq_true (by omega)
       (try rw [show ((1 : Int)).toNat = 1 from rfl] at hx268_0)
       replace p268 := eq_true p268; replace q268 := eq_true q268
       refine start_ (n := 32) (S := fun w' => w'.cell? ⟨gb258, 0, none⟩ = some (.int .i64 x259000_1) ∧ w'.cell? ⟨gb258, 1, none⟩ = some (.string (⟨#[]⟩ : ByteArray)) ∧ w'.cell? ⟨gb258, 2, none⟩ = some (.string (⟨#[]⟩ : ByteArray)) ∧ w'.cell? ⟨gb258, 3, none⟩ = some (.int .i64 0) ∧ w'.cell? ⟨gb258, 4, none⟩ = some (.int .i64 a1) ∧ w'.cell? ⟨ad268.block, ad268.off + 1, none⟩ = some (.string (rdOf ByteArray.empty t255 1))) (ds := []) (bl 32 0) (by kernel_rfl) rfl (by kernel_rfl) ⟨(kCe BK258.out 0).trans rfl, (kCe BK258.out 1).trans rfl, (kCe BK258.out 2).trans rfl, (kCe BK258.out 3).trans rfl, (kCe BK258.out 4).trans rfl, hx268_0⟩ (fun hHeld => ?_); refine with_tabW r8_rule.tab9 r8_rule.bits9 (fun HT_ HW_ => ?_)
       generalize wr.drew = w49 at HO_6 HO_8 BK254 BK258 HB hx268_0 hHeld ⊢
       refine pV 0 33 (bl 32 1) HT_.out ?_
       refine tV 1 34 (bl 32 3) HT_.out HW_.out hHeld ?_ (hv := by rintro w' ⟨s0, s1, s2, s3, s4, s5⟩; go_simp; with_reducible rfl)
       refine pV 2 35 (bl 32 7) HT_.out ?_
       refine pV 3 36 (bl 32 15) HT_.out ?_
       refine pV 4 37 (bl 32 31) HT_.out ?_
       refine tV 5 38 (bl 32 63) HT_.out HW_.out hHeld ?_ (hv := by rintro w' ⟨s0, s1, s2, s3, s4, s5⟩; go_simp; with_reducible rfl)
       refine pV 6 39 (bl 32 127) HT_.out ?_
       refine pV 7 40 (bl 32 255) HT_.out ?_
       refine pU 8 41 (bl 32 511) HT_.out ?_
       refine pU 9 42 (bl 32 1023) HT_.out ?_
       refine pU 10 43 (bl 32 2047) HT_.out ?_
       refine pV 11 44 (bl 32 4095) HT_.out ?_
       refine pV 12 45 (bl 32 8191) HT_.out ?_
       refine pV 13 46 (bl 32 16383) HT_.out ?_
       refine pV 14 47 (bl 32 32767) HT_.out ?_
       refine tV 15 48 (bl 32 65535) HT_.out HW_.out hHeld ?_ (hv := by rintro w' ⟨s0, s1, s2, s3, s4, s5⟩; go_simp; with_reducible rfl)
       refine pV 16 49 (bl 32 131071) HT_.out ?_
       refine pV 17 50 (bl 32 262143) HT_.out ?_
       refine pV 18 51 (bl 32 524287) HT_.out ?_
       refine pV 19 52 (bl 32 1048575) HT_.out ?_
       refine pV 20 53 (bl 32 2097151) HT_.out ?_
       refine pV 21 54 (bl 32 4194303) HT_.out ?_
       refine pV 22 55 (bl 32 8388607) HT_.out ?_
       refine pV 23 56 (bl 32 16777215) HT_.out ?_
       refine pV 24 57 (bl 32 33554431) HT_.out ?_
       refine pV 26 59 (bl 32 100663295) HT_.out ?_
       refine pV 27 60 (bl 32 234881023) HT_.out ?_
       refine tV 25 58 (bl 32 268435455) HT_.out HW_.out hHeld ?_ (hv := by rintro w' ⟨s0, s1, s2, s3, s4, s5⟩; go_simp; with_reducible rfl)
       refine tV 28 61 (bl 32 536870911) HT_.out HW_.out hHeld ?_ (hv := by rintro w' ⟨s0, s1, s2, s3, s4, s5⟩; go_simp; with_reducible rfl)
       refine one_ (i := 29) (N := some 62) (bl 32 1073741823) rfl rfl (one_of HT_.out (by kernel_rfl)) (by decide) (fun K hK => ?_)
       refine goes_ Tryz.func104 (by kernel_rfl) rfl #[.int .i64 x259000_1, .string (rdOf ByteArray.empty t255 1)] (by rfl) rfl rfl (by (try simp only [qM0, qM1, qM2]); first | done | rfl | (simp only [qD0, qD1]; rfl)) ?_
       with_reducible refine (r8_left.calls k1 x259000_1 (rdOf ByteArray.empty t255 1) t269 _ A48.out).mono ?_
       rintro e w51 ⟨rfl, hb⟩
       have HS5_ := (hb.cell (World.block_lt_of_cell? _ _ (hHeld.2.2.2.2.2))).trans (hHeld.2.2.2.2.2)
       refine ⟨_, rfl, ?_⟩
       have n0_ := aK (Kd.R_below (rX HO_6.out) hb)
       have n1_ := aK (Kd.R_below (rX HO_8.out) hb)
       have n2_ := aK (kBe (g := gb254) (o := .cells #[.int .i64 0, .string (⟨#[]⟩ : ByteArray), .string (⟨#[]⟩ : ByteArray), .int .i64 0, .int .i64 0] 50 (0, 0)) (kX BK254.out) hb)
       have n3_ := aK (kBe (g := gb258) (o := .cells #[.int .i64 x259000_1, .string (⟨#[]⟩ : ByteArray), .string (⟨#[]⟩ : ByteArray), .int .i64 0, .int .i64 a1] 50 (0, 0)) (kX BK258.out) hb)
       have n4_ := aK (bSp (bX2 GE254.out GE258.out) hb)
       clear HO_6; clear HO_8; clear BK254; clear BK258; clear HB
       have HO_6 := n0_
       have HO_8 := n1_
       have BK254 := n2_
       have BK258 := n3_
       have HB := n4_
       clear n0_ n1_ n2_ n3_ n4_
       (try clear hb)
       (try clear hb2)
       (try clear hk)
       (try clear hi)
       refine hK.out _ _ ⟨(kCe BK258.out 0).trans rfl, (kCe BK258.out 1).trans rfl, (kCe BK258.out 2).trans rfl, (kCe BK258.out 3).trans rfl, (kCe BK258.out 4).trans rfl, HS5_⟩ (fun hHeld => ?_)
       clear hK K
       refine norm_ (a' := ?_) ?_ ?_
       rotate_left
       ·
        show Act.put _ (some 62) _ = _
        simp only [Act.put, qSa, qS0, qS1, i64_w, i32_w]
        rfl
       refine pV 30 63 (bl 32 2147483647) HT_.out ?_
       refine pV 31 64 (bl 32 4294967295) HT_.out ?_
       refine done_ (done_of HT_.out (by kernel_rfl)) ?_
       try go_wp2
       go_meet
       case rel => exact ⟨_, (!t269), sX, H', ⟨by have := HK1.out; first | omega | exact Nat.le_refl _⟩, ⟨by (with_reducible repeat (first | apply Kd.R_alloc | apply Kd.R_drewN | apply Kd.R_drew)); exact Kd.R_mono HO_6.out (fun _ hk => trivial)⟩, ⟨kX BK254.out⟩, ⟨kX BK258.out⟩, ⟨bX2 GE254.out GE258.out⟩⟩
      rw [if_pos c27] at H; have c27b0 : decide (x259000_1 ≤ 5) = true := decide_eq_true c27; clear c27
      by_cases c28 : (t255.length : Int) = 4
      rotate_left
      ·
       rw [if_neg c28] at H; obtain ⟨c28b0, c28b1⟩ := bN c28; have H' := aK H; clear H
       try go_wp2
       have n0_ := aK (Kd.R_drew HO_6.out)
       have n1_ := aK (Kd.R_drew HO_8.out)
       have n2_ := aK (kDr BK254.out)
       have n3_ := aK (kDr BK258.out)
       have n4_ := aK (bD1 HB.out)
       clear HO_6; clear HO_8; clear BK254; clear BK258; clear HB
       have HO_6 := n0_
       have HO_8 := n1_
       have BK254 := n2_
       have BK258 := n3_
       have HB := n4_
       clear n0_ n1_ n2_ n3_ n4_
       obtain ⟨Ao44, co44, eo44⟩ := Kd.R_slice HO_6.out
       (first | subst eo44 | (injection eo44 with f1_ f2_ f3_; have f4_ := f1_.symm; have f5_ := f3_.symm; clear f1_ f2_ f3_; subst f4_; subst f5_))
       refine start_ (n := 32) (S := fun w' => w'.cell? ⟨gb258, 0, none⟩ = some (.int .i64 x259000_1) ∧ w'.cell? ⟨gb258, 1, none⟩ = some (.string (⟨#[]⟩ : ByteArray)) ∧ w'.cell? ⟨gb258, 2, none⟩ = some (.string (⟨#[]⟩ : ByteArray)) ∧ w'.cell? ⟨gb258, 3, none⟩ = some (.int .i64 0) ∧ w'.cell? ⟨gb258, 4, none⟩ = some (.int .i64 a1)) (ds := []) (bl 32 0) (by kernel_rfl) rfl (by kernel_rfl) ⟨(kCe BK258.out 0).trans rfl, (kCe BK258.out 1).trans rfl, (kCe BK258.out 2).trans rfl, (kCe BK258.out 3).trans rfl, (kCe BK258.out 4).trans rfl⟩ (fun hHeld => ?_); refine with_tabW r8_rule.tab9 r8_rule.bits9 (fun HT_ HW_ => ?_)
       generalize wr.drew = w43 at HO_6 HO_8 BK254 BK258 HB hHeld ⊢
       refine pV 0 33 (bl 32 1) HT_.out ?_
       refine tV 1 34 (bl 32 3) HT_.out HW_.out hHeld ?_ (hv := by rintro w' ⟨s0, s1, s2, s3, s4⟩; go_simp; with_reducible rfl)
       refine pV 2 35 (bl 32 7) HT_.out ?_
       refine pV 3 36 (bl 32 15) HT_.out ?_
       refine pV 4 37 (bl 32 31) HT_.out ?_
       refine tV 5 38 (bl 32 63) HT_.out HW_.out hHeld ?_ (hv := by rintro w' ⟨s0, s1, s2, s3, s4⟩; go_simp; with_reducible rfl)
       refine pV 6 39 (bl 32 127) HT_.out ?_
       refine pV 7 40 (bl 32 255) HT_.out ?_
       refine pV 8 41 (bl 32 511) HT_.out ?_
       refine pV 9 42 (bl 32 1023) HT_.out ?_
       refine pV 10 43 (bl 32 2047) HT_.out ?_
       refine pV 11 44 (bl 32 4095) HT_.out ?_
       refine pV 12 45 (bl 32 8191) HT_.out ?_
       refine pV 13 46 (bl 32 16383) HT_.out ?_
       refine pU 14 47 (bl 32 32767) HT_.out ?_
       refine pU 15 48 (bl 32 65535) HT_.out ?_
       refine pU 16 49 (bl 32 131071) HT_.out ?_
       refine pU 17 50 (bl 32 262143) HT_.out ?_
       refine pU 18 51 (bl 32 524287) HT_.out ?_
       refine pU 19 52 (bl 32 1048575) HT_.out ?_
       refine pU 20 53 (bl 32 2097151) HT_.out ?_
       refine pU 21 54 (bl 32 4194303) HT_.out ?_
       refine pV 22 55 (bl 32 8388607) HT_.out ?_
       refine pV 23 56 (bl 32 16777215) HT_.out ?_
       refine pU 24 57 (bl 32 33554431) HT_.out ?_
       refine pU 25 58 (bl 32 67108863) HT_.out ?_
       refine pU 26 59 (bl 32 134217727) HT_.out ?_
       refine pU 27 60 (bl 32 268435455) HT_.out ?_
       refine pU 28 61 (bl 32 536870911) HT_.out ?_
       refine pU 29 62 (bl 32 1073741823) HT_.out ?_
       refine pU 30 63 (bl 32 2147483647) HT_.out ?_
       refine pV 31 64 (bl 32 4294967295) HT_.out ?_
       refine done_ (done_of HT_.out (by kernel_rfl)) ?_
       try go_wp2
       go_meet
       case rel => exact ⟨_, (true), sX, H', ⟨by have := HK1.out; first | omega | exact Nat.le_refl _⟩, ⟨by (with_reducible repeat (first | apply Kd.R_alloc | apply Kd.R_drewN | apply Kd.R_drew)); exact Kd.R_mono HO_6.out (fun _ hk => trivial)⟩, ⟨kX BK254.out⟩, ⟨kX BK258.out⟩, ⟨bX2 GE254.out GE258.out⟩⟩
      rw [if_pos c28] at H; obtain ⟨c28b0, c28b1⟩ := bY c28; clear c28
      by_cases c29 : x259000_1 > 5
      rotate_left
      ·
       rw [if_neg c29] at H; have c29b0 : decide (5 < x259000_1) = false := decide_eq_false c29; clear c29
       by_cases c38 : 1 < (t255.length : Int)
       rotate_left
       ·
        rw [if_neg c38] at H
        exact absurd H (by simp)
       rw [if_pos c38] at H; have c38b0 : decide (1 < (t255.length : Int)) = true := decide_eq_true c38
       have c38b1 : decide (1 < t255.length) = true := decide_eq_true (by omega)
       clear c38; obtain ⟨t267, A39, H⟩ := oC H
       try dsimp only at H
       have H' := aK H; clear H
       try go_wp2
       have n0_ := aK (Kd.R_drew HO_6.out)
       have n1_ := aK (Kd.R_drew HO_8.out)
       have n2_ := aK (kDr BK254.out)
       have n3_ := aK (kDr BK258.out)
       have n4_ := aK (bD1 HB.out)
       clear HO_6; clear HO_8; clear BK254; clear BK258; clear HB
       have HO_6 := n0_
       have HO_8 := n1_
       have BK254 := n2_
       have BK258 := n3_
       have HB := n4_
       clear n0_ n1_ n2_ n3_ n4_
       obtain ⟨Ao41, co41, eo41⟩ := Kd.R_slice HO_6.out
       (first | subst eo41 | (injection eo41 with f1_ f2_ f3_; have f4_ := f1_.symm; have f5_ := f3_.symm; clear f1_ f2_ f3_; subst f4_; subst f5_))
       have p266 : 0 ≤ (1 : Int) := (by omega)
       have q266 : 1 < (t255.length : Int) := oA
       obtain ⟨ad266, e266, hx266_0⟩ := Kd.at_string (Kd.R_reads' HO_6.out).2.2 1 p266 q266
       cases e266
       (try simp only [show (1 : Int).toNat = 1 from rfl, Nat.reduceMul, Nat.reduceEqDiff, Go.Addr.add, ↓reduceIte] at hx266_0)
       have qi266 : (1 < t255.length) = True := eq_true (by omega)
       (try rw [show ((1 : Int)).toNat = 1 from rfl] at hx266_0)
       replace p266 := eq_true p266; replace q266 := eq_true q266
       refine start_ (n := 32) (S := fun w' => w'.cell? ⟨gb258, 0, none⟩ = some (.int .i64 x259000_1) ∧ w'.cell? ⟨gb258, 1, none⟩ = some (.string (⟨#[]⟩ : ByteArray)) ∧ w'.cell? ⟨gb258, 2, none⟩ = some (.string (⟨#[]⟩ : ByteArray)) ∧ w'.cell? ⟨gb258, 3, none⟩ = some (.int .i64 0) ∧ w'.cell? ⟨gb258, 4, none⟩ = some (.int .i64 a1) ∧ w'.cell? ⟨ad266.block, ad266.off + 1, none⟩ = some (.string (rdOf ByteArray.empty t255 1))) (ds := []) (bl 32 0) (by kernel_rfl) rfl (by kernel_rfl) ⟨(kCe BK258.out 0).trans rfl, (kCe BK258.out 1).trans rfl, (kCe BK258.out 2).trans rfl, (kCe BK258.out 3).trans rfl, (kCe BK258.out 4).trans rfl, hx266_0⟩ (fun hHeld => ?_); refine with_tabW r8_rule.tab9 r8_rule.bits9 (fun HT_ HW_ => ?_)
       generalize wr.drew = w40 at HO_6 HO_8 BK254 BK258 HB hx266_0 hHeld ⊢
       refine pV 0 33 (bl 32 1) HT_.out ?_
       refine tV 1 34 (bl 32 3) HT_.out HW_.out hHeld ?_ (hv := by rintro w' ⟨s0, s1, s2, s3, s4, s5⟩; go_simp; with_reducible rfl)
       refine pV 2 35 (bl 32 7) HT_.out ?_
       refine pV 3 36 (bl 32 15) HT_.out ?_
       refine pV 4 37 (bl 32 31) HT_.out ?_
       refine tV 5 38 (bl 32 63) HT_.out HW_.out hHeld ?_ (hv := by rintro w' ⟨s0, s1, s2, s3, s4, s5⟩; go_simp; with_reducible rfl)
       refine pV 6 39 (bl 32 127) HT_.out ?_
       refine pV 7 40 (bl 32 255) HT_.out ?_
       refine pV 8 41 (bl 32 511) HT_.out ?_
       refine pV 9 42 (bl 32 1023) HT_.out ?_
       refine pV 10 43 (bl 32 2047) HT_.out ?_
       refine pV 11 44 (bl 32 4095) HT_.out ?_
       refine pV 12 45 (bl 32 8191) HT_.out ?_
       refine pV 13 46 (bl 32 16383) HT_.out ?_
       refine pV 14 47 (bl 32 32767) HT_.out ?_
       refine tV 15 48 (bl 32 65535) HT_.out HW_.out hHeld ?_ (hv := by rintro w' ⟨s0, s1, s2, s3, s4, s5⟩; go_simp; with_reducible rfl)
       refine pV 16 49 (bl 32 131071) HT_.out ?_
       refine pV 17 50 (bl 32 262143) HT_.out ?_
       refine pU 18 51 (bl 32 524287) HT_.out ?_
       refine pU 19 52 (bl 32 1048575) HT_.out ?_
       refine pU 20 53 (bl 32 2097151) HT_.out ?_
       refine pV 21 54 (bl 32 4194303) HT_.out ?_
       refine pV 22 55 (bl 32 8388607) HT_.out ?_
       refine pV 23 56 (bl 32 16777215) HT_.out ?_
       refine pV 24 57 (bl 32 33554431) HT_.out ?_
       refine pV 26 59 (bl 32 100663295) HT_.out ?_
       refine pV 27 60 (bl 32 234881023) HT_.out ?_
       refine tV 25 58 (bl 32 268435455) HT_.out HW_.out hHeld ?_ (hv := by rintro w' ⟨s0, s1, s2, s3, s4, s5⟩; go_simp; with_reducible rfl)
       refine tV 28 61 (bl 32 536870911) HT_.out HW_.out hHeld ?_ (hv := by rintro w' ⟨s0, s1, s2, s3, s4, s5⟩; go_simp; with_reducible rfl)
       refine one_ (i := 29) (N := some 62) (bl 32 1073741823) rfl rfl (one_of HT_.out (by kernel_rfl)) (by decide) (fun K hK => ?_)
       refine goes_ Tryz.func104 (by kernel_rfl) rfl #[.int .i64 x259000_1, .string (rdOf ByteArray.empty t255 1)] (by rfl) rfl rfl (by (try simp only [qM0, qM1, qM2]); first | done | rfl | (simp only [qD0, qD1]; rfl)) ?_
       with_reducible refine (r8_left.calls k1 x259000_1 (rdOf ByteArray.empty t255 1) t267 _ A39.out).mono ?_
       rintro e w42 ⟨rfl, hb⟩
       have HS5_ := (hb.cell (World.block_lt_of_cell? _ _ (hHeld.2.2.2.2.2))).trans (hHeld.2.2.2.2.2)
       refine ⟨_, rfl, ?_⟩
       have n0_ := aK (Kd.R_below (rX HO_6.out) hb)
       have n1_ := aK (Kd.R_below (rX HO_8.out) hb)
       have n2_ := aK (kBe (g := gb254) (o := .cells #[.int .i64 0, .string (⟨#[]⟩ : ByteArray), .string (⟨#[]⟩ : ByteArray), .int .i64 0, .int .i64 0] 50 (0, 0)) (kX BK254.out) hb)
       have n3_ := aK (kBe (g := gb258) (o := .cells #[.int .i64 x259000_1, .string (⟨#[]⟩ : ByteArray), .string (⟨#[]⟩ : ByteArray), .int .i64 0, .int .i64 a1] 50 (0, 0)) (kX BK258.out) hb)
       have n4_ := aK (bSp (bX2 GE254.out GE258.out) hb)
       clear HO_6; clear HO_8; clear BK254; clear BK258; clear HB
       have HO_6 := n0_
       have HO_8 := n1_
       have BK254 := n2_
       have BK258 := n3_
       have HB := n4_
       clear n0_ n1_ n2_ n3_ n4_
       (try clear hb)
       (try clear hb2)
       (try clear hk)
       (try clear hi)
       refine hK.out _ _ ⟨(kCe BK258.out 0).trans rfl, (kCe BK258.out 1).trans rfl, (kCe BK258.out 2).trans rfl, (kCe BK258.out 3).trans rfl, (kCe BK258.out 4).trans rfl, HS5_⟩ (fun hHeld => ?_)
       clear hK K
       refine norm_ (a' := ?_) ?_ ?_
       rotate_left
       ·
        show Act.put _ (some 62) _ = _
        simp only [Act.put, qSa, qS0, qS1, i64_w, i32_w]
        rfl
       refine pV 30 63 (bl 32 2147483647) HT_.out ?_
       refine pV 31 64 (bl 32 4294967295) HT_.out ?_
       refine done_ (done_of HT_.out (by kernel_rfl)) ?_
       try go_wp2
       go_meet
       case rel => exact ⟨_, (!t267), sX, H', ⟨by have := HK1.out; first | omega | exact Nat.le_refl _⟩, ⟨by (with_reducible repeat (first | apply Kd.R_alloc | apply Kd.R_drewN | apply Kd.R_drew)); exact Kd.R_mono HO_6.out (fun _ hk => trivial)⟩, ⟨kX BK254.out⟩, ⟨kX BK258.out⟩, ⟨bX2 GE254.out GE258.out⟩⟩
      rw [if_pos c29] at H; have c29b0 : decide (5 < x259000_1) = true := decide_eq_true c29; clear c29
      by_cases c30 : (t255.length : Int) = 3
      rotate_left
      ·
       rw [if_neg c30] at H; obtain ⟨c30b0, c30b1⟩ := bN c30; have H' := aK H; clear H
       try go_wp2
       have n0_ := aK (Kd.R_drew HO_6.out)
       have n1_ := aK (Kd.R_drew HO_8.out)
       have n2_ := aK (kDr BK254.out)
       have n3_ := aK (kDr BK258.out)
       have n4_ := aK (bD1 HB.out)
       clear HO_6; clear HO_8; clear BK254; clear BK258; clear HB
       have HO_6 := n0_
       have HO_8 := n1_
       have BK254 := n2_
       have BK258 := n3_
       have HB := n4_
       clear n0_ n1_ n2_ n3_ n4_
       obtain ⟨Ao37, co37, eo37⟩ := Kd.R_slice HO_6.out
       (first | subst eo37 | (injection eo37 with f1_ f2_ f3_; have f4_ := f1_.symm; have f5_ := f3_.symm; clear f1_ f2_ f3_; subst f4_; subst f5_))
       refine start_ (n := 32) (S := fun w' => w'.cell? ⟨gb258, 0, none⟩ = some (.int .i64 x259000_1) ∧ w'.cell? ⟨gb258, 1, none⟩ = some (.string (⟨#[]⟩ : ByteArray)) ∧ w'.cell? ⟨gb258, 2, none⟩ = some (.string (⟨#[]⟩ : ByteArray)) ∧ w'.cell? ⟨gb258, 3, none⟩ = some (.int .i64 0) ∧ w'.cell? ⟨gb258, 4, none⟩ = some (.int .i64 a1)) (ds := []) (bl 32 0) (by kernel_rfl) rfl (by kernel_rfl) ⟨(kCe BK258.out 0).trans rfl, (kCe BK258.out 1).trans rfl, (kCe BK258.out 2).trans rfl, (kCe BK258.out 3).trans rfl, (kCe BK258.out 4).trans rfl⟩ (fun hHeld => ?_); refine with_tabW r8_rule.tab9 r8_rule.bits9 (fun HT_ HW_ => ?_)
       generalize wr.drew = w36 at HO_6 HO_8 BK254 BK258 HB hHeld ⊢
       refine pV 0 33 (bl 32 1) HT_.out ?_
       refine tV 1 34 (bl 32 3) HT_.out HW_.out hHeld ?_ (hv := by rintro w' ⟨s0, s1, s2, s3, s4⟩; go_simp; with_reducible rfl)
       refine pV 2 35 (bl 32 7) HT_.out ?_
       refine pV 3 36 (bl 32 15) HT_.out ?_
       refine pV 4 37 (bl 32 31) HT_.out ?_
       refine tV 5 38 (bl 32 63) HT_.out HW_.out hHeld ?_ (hv := by rintro w' ⟨s0, s1, s2, s3, s4⟩; go_simp; with_reducible rfl)
       refine pV 6 39 (bl 32 127) HT_.out ?_
       refine pV 7 40 (bl 32 255) HT_.out ?_
       refine pV 8 41 (bl 32 511) HT_.out ?_
       refine pV 9 42 (bl 32 1023) HT_.out ?_
       refine pV 10 43 (bl 32 2047) HT_.out ?_
       refine pV 11 44 (bl 32 4095) HT_.out ?_
       refine pV 12 45 (bl 32 8191) HT_.out ?_
       refine pV 13 46 (bl 32 16383) HT_.out ?_
       refine pV 14 47 (bl 32 32767) HT_.out ?_
       refine tV 15 48 (bl 32 65535) HT_.out HW_.out hHeld ?_ (hv := by rintro w' ⟨s0, s1, s2, s3, s4⟩; go_simp; with_reducible rfl)
       refine pV 16 49 (bl 32 131071) HT_.out ?_
       refine pV 17 50 (bl 32 262143) HT_.out ?_
       refine pV 18 51 (bl 32 524287) HT_.out ?_
       refine pV 19 52 (bl 32 1048575) HT_.out ?_
       refine pV 20 53 (bl 32 2097151) HT_.out ?_
       refine pV 21 54 (bl 32 4194303) HT_.out ?_
       refine pV 22 55 (bl 32 8388607) HT_.out ?_
       refine pV 23 56 (bl 32 16777215) HT_.out ?_
       refine pU 24 57 (bl 32 33554431) HT_.out ?_
       refine pU 25 58 (bl 32 67108863) HT_.out ?_
       refine pU 26 59 (bl 32 134217727) HT_.out ?_
       refine pU 27 60 (bl 32 268435455) HT_.out ?_
       refine pU 28 61 (bl 32 536870911) HT_.out ?_
       refine pU 29 62 (bl 32 1073741823) HT_.out ?_
       refine pU 30 63 (bl 32 2147483647) HT_.out ?_
       refine pV 31 64 (bl 32 4294967295) HT_.out ?_
       refine done_ (done_of HT_.out (by kernel_rfl)) ?_
       try go_wp2
       go_meet
       case rel => exact ⟨_, (true), sX, H', ⟨by have := HK1.out; first | omega | exact Nat.le_refl _⟩, ⟨by (with_reducible repeat (first | apply Kd.R_alloc | apply Kd.R_drewN | apply Kd.R_drew)); exact Kd.R_mono HO_6.out (fun _ hk => trivial)⟩, ⟨kX BK254.out⟩, ⟨kX BK258.out⟩, ⟨bX2 GE254.out GE258.out⟩⟩
      rw [if_pos c30] at H; obtain ⟨c30b0, c30b1⟩ := bY c30; clear c30
      by_cases c31 : 1 < (t255.length : Int)
      rotate_left
      ·
       rw [if_neg c31] at H
       exact absurd H (by simp)
      rw [if_pos c31] at H; have c31b0 : decide (1 < (t255.length : Int)) = true := decide_eq_true c31
      have c31b1 : decide (1 < t255.length) = true := decide_eq_true (by omega)
      clear c31; obtain ⟨t265, A32, H⟩ := oC H
      try dsimp only at H
      have H' := aK H; clear H
      try go_wp2
      have n0_ := aK (Kd.R_drew HO_6.out)
      have n1_ := aK (Kd.R_drew HO_8.out)
      have n2_ := aK (kDr BK254.out)
      have n3_ := aK (kDr BK258.out)
      have n4_ := aK (bD1 HB.out)
      clear HO_6; clear HO_8; clear BK254; clear BK258; clear HB
      have HO_6 := n0_
      have HO_8 := n1_
      have BK254 := n2_
      have BK258 := n3_
      have HB := n4_
      clear n0_ n1_ n2_ n3_ n4_
      obtain ⟨Ao34, co34, eo34⟩ := Kd.R_slice HO_6.out
      (first | subst eo34 | (injection eo34 with f1_ f2_ f3_; have f4_ := f1_.symm; have f5_ := f3_.symm; clear f1_ f2_ f3_; subst f4_; subst f5_))
      have p264 : 0 ≤ (1 : Int) := (by omega)
      have q264 : 1 < (t255.length : Int) := oA
      obtain ⟨ad264, e264, hx264_0⟩ := Kd.at_string (Kd.R_reads' HO_6.out).2.2 1 p264 q264
      cases e264
      (try simp only [show (1 : Int).toNat = 1 from rfl, Nat.reduceMul, Nat.reduceEqDiff, Go.Addr.add, ↓reduceIte] at hx264_0)
      have qi264 : (1 < t255.length) = True := eq_true (by omega)
      (try rw [show ((1 : Int)).toNat = 1 from rfl] at hx264_0)
      replace p264 := eq_true p264; replace q264 := eq_true q264
      refine start_ (n := 32) (S := fun w' => w'.cell? ⟨gb258, 0, none⟩ = some (.int .i64 x259000_1) ∧ w'.cell? ⟨gb258, 1, none⟩ = some (.string (⟨#[]⟩ : ByteArray)) ∧ w'.cell? ⟨gb258, 2, none⟩ = some (.string (⟨#[]⟩ : ByteArray)) ∧ w'.cell? ⟨gb258, 3, none⟩ = some (.int .i64 0) ∧ w'.cell? ⟨gb258, 4, none⟩ = some (.int .i64 a1) ∧ w'.cell? ⟨ad264.block, ad264.off + 1, none⟩ = some (.string (rdOf ByteArray.empty t255 1))) (ds := []) (bl 32 0) (by kernel_rfl) rfl (by kernel_rfl) ⟨(kCe BK258.out 0).trans rfl, (kCe BK258.out 1).trans rfl, (kCe BK258.out 2).trans rfl, (kCe BK258.out 3).trans rfl, (kCe BK258.out 4).trans rfl, hx264_0⟩ (fun hHeld => ?_); refine with_tabW r8_rule.tab9 r8_rule.bits9 (fun HT_ HW_ => ?_)
      generalize wr.drew = w33 at HO_6 HO_8 BK254 BK258 HB hx264_0 hHeld ⊢
      refine pV 0 33 (bl 32 1) HT_.out ?_
      refine tV 1 34 (bl 32 3) HT_.out HW_.out hHeld ?_ (hv := by rintro w' ⟨s0, s1, s2, s3, s4, s5⟩; go_simp; with_reducible rfl)
      refine pV 2 35 (bl 32 7) HT_.out ?_
      refine pV 3 36 (bl 32 15) HT_.out ?_
      refine pV 4 37 (bl 32 31) HT_.out ?_
      refine tV 5 38 (bl 32 63) HT_.out HW_.out hHeld ?_ (hv := by rintro w' ⟨s0, s1, s2, s3, s4, s5⟩; go_simp; with_reducible rfl)
      refine pV 6 39 (bl 32 127) HT_.out ?_
      refine pV 7 40 (bl 32 255) HT_.out ?_
      refine pV 8 41 (bl 32 511) HT_.out ?_
      refine pV 9 42 (bl 32 1023) HT_.out ?_
      refine pV 10 43 (bl 32 2047) HT_.out ?_
      refine pV 11 44 (bl 32 4095) HT_.out ?_
      refine pV 12 45 (bl 32 8191) HT_.out ?_
      refine pV 13 46 (bl 32 16383) HT_.out ?_
      refine pV 14 47 (bl 32 32767) HT_.out ?_
      refine tV 15 48 (bl 32 65535) HT_.out HW_.out hHeld ?_ (hv := by rintro w' ⟨s0, s1, s2, s3, s4, s5⟩; go_simp; with_reducible rfl)
      refine pV 16 49 (bl 32 131071) HT_.out ?_
      refine pV 17 50 (bl 32 262143) HT_.out ?_
      refine pV 18 51 (bl 32 524287) HT_.out ?_
      refine pV 19 52 (bl 32 1048575) HT_.out ?_
      refine pV 20 53 (bl 32 2097151) HT_.out ?_
      refine pV 21 54 (bl 32 4194303) HT_.out ?_
      refine pV 22 55 (bl 32 8388607) HT_.out ?_
      refine pV 23 56 (bl 32 16777215) HT_.out ?_
      refine pV 24 57 (bl 32 33554431) HT_.out ?_
      refine pV 26 59 (bl 32 100663295) HT_.out ?_
      refine pV 27 60 (bl 32 234881023) HT_.out ?_
      refine tV 25 58 (bl 32 268435455) HT_.out HW_.out hHeld ?_ (hv := by rintro w' ⟨s0, s1, s2, s3, s4, s5⟩; go_simp; with_reducible rfl)
      refine tV 28 61 (bl 32 536870911) HT_.out HW_.out hHeld ?_ (hv := by rintro w' ⟨s0, s1, s2, s3, s4, s5⟩; go_simp; with_reducible rfl)
      refine one_ (i := 29) (N := some 62) (bl 32 1073741823) rfl rfl (one_of HT_.out (by kernel_rfl)) (by decide) (fun K hK => ?_)
      refine goes_ Tryz.func104 (by kernel_rfl) rfl #[.int .i64 x259000_1, .string (rdOf ByteArray.empty t255 1)] (by rfl) rfl rfl (by (try simp only [qM0, qM1, qM2]); first | done | rfl | (simp only [qD0, qD1]; rfl)) ?_
      with_reducible refine (r8_left.calls k1 x259000_1 (rdOf ByteArray.empty t255 1) t265 _ A32.out).mono ?_
      rintro e w35 ⟨rfl, hb⟩
      have HS5_ := (hb.cell (World.block_lt_of_cell? _ _ (hHeld.2.2.2.2.2))).trans (hHeld.2.2.2.2.2)
      refine ⟨_, rfl, ?_⟩
      have n0_ := aK (Kd.R_below (rX HO_6.out) hb)
      have n1_ := aK (Kd.R_below (rX HO_8.out) hb)
      have n2_ := aK (kBe (g := gb254) (o := .cells #[.int .i64 0, .string (⟨#[]⟩ : ByteArray), .string (⟨#[]⟩ : ByteArray), .int .i64 0, .int .i64 0] 50 (0, 0)) (kX BK254.out) hb)
      have n3_ := aK (kBe (g := gb258) (o := .cells #[.int .i64 x259000_1, .string (⟨#[]⟩ : ByteArray), .string (⟨#[]⟩ : ByteArray), .int .i64 0, .int .i64 a1] 50 (0, 0)) (kX BK258.out) hb)
      have n4_ := aK (bSp (bX2 GE254.out GE258.out) hb)
      clear HO_6; clear HO_8; clear BK254; clear BK258; clear HB
      have HO_6 := n0_
      have HO_8 := n1_
      have BK254 := n2_
      have BK258 := n3_
      have HB := n4_
      clear n0_ n1_ n2_ n3_ n4_
      (try clear hb)
      (try clear hb2)
      (try clear hk)
      (try clear hi)
      refine hK.out _ _ ⟨(kCe BK258.out 0).trans rfl, (kCe BK258.out 1).trans rfl, (kCe BK258.out 2).trans rfl, (kCe BK258.out 3).trans rfl, (kCe BK258.out 4).trans rfl, HS5_⟩ (fun hHeld => ?_)
      clear hK K
      refine norm_ (a' := ?_) ?_ ?_
      rotate_left
      ·
       show Act.put _ (some 62) _ = _
       simp only [Act.put, qSa, qS0, qS1, i64_w, i32_w]
       rfl
      refine pV 30 63 (bl 32 2147483647) HT_.out ?_
      refine pV 31 64 (bl 32 4294967295) HT_.out ?_
      refine done_ (done_of HT_.out (by kernel_rfl)) ?_
      try go_wp2
      go_meet
      case rel => exact ⟨_, (!t265), sX, H', ⟨by have := HK1.out; first | omega | exact Nat.le_refl _⟩, ⟨by (with_reducible repeat (first | apply Kd.R_alloc | apply Kd.R_drewN | apply Kd.R_drew)); exact Kd.R_mono HO_6.out (fun _ hk => trivial)⟩, ⟨kX BK254.out⟩, ⟨kX BK258.out⟩, ⟨bX2 GE254.out GE258.out⟩⟩
     rw [if_pos c25] at H; obtain ⟨c25b0, c25b1⟩ := bY c25; clear c25
     (first | rw [c25b0] | (simp only [i64_w, i32_w]; rw [c25b0]) | skip)
     have H' := aK H; clear H
     try go_wp2
     have n0_ := aK (Kd.R_drew HO_6.out)
     have n1_ := aK (Kd.R_drew HO_8.out)
     have n2_ := aK (kDr BK254.out)
     have n3_ := aK (kDr BK258.out)
     have n4_ := aK (bD1 HB.out)
     clear HO_6; clear HO_8; clear BK254; clear BK258; clear HB
     have HO_6 := n0_
     have HO_8 := n1_
     have BK254 := n2_
     have BK258 := n3_
     have HB := n4_
     clear n0_ n1_ n2_ n3_ n4_
     refine start_ (n := 32) (S := fun w' => w'.cell? ⟨gb258, 0, none⟩ = some (.int .i64 x259000_1) ∧ w'.cell? ⟨gb258, 1, none⟩ = some (.string (⟨#[]⟩ : ByteArray)) ∧ w'.cell? ⟨gb258, 2, none⟩ = some (.string (⟨#[]⟩ : ByteArray)) ∧ w'.cell? ⟨gb258, 3, none⟩ = some (.int .i64 0) ∧ w'.cell? ⟨gb258, 4, none⟩ = some (.int .i64 a1)) (ds := []) (bl 32 0) (by kernel_rfl) rfl (by kernel_rfl) ⟨(kCe BK258.out 0).trans rfl, (kCe BK258.out 1).trans rfl, (kCe BK258.out 2).trans rfl, (kCe BK258.out 3).trans rfl, (kCe BK258.out 4).trans rfl⟩ (fun hHeld => ?_); refine with_tabW r8_rule.tab9 r8_rule.bits9 (fun HT_ HW_ => ?_)
     generalize wr.drew = w26 at HO_6 HO_8 BK254 BK258 HB hHeld ⊢
     refine pV 0 33 (bl 32 1) HT_.out ?_
     refine tV 1 34 (bl 32 3) HT_.out HW_.out hHeld ?_ (hv := by rintro w' ⟨s0, s1, s2, s3, s4⟩; go_simp; with_reducible rfl)
     refine pV 2 35 (bl 32 7) HT_.out ?_
     refine pV 3 36 (bl 32 15) HT_.out ?_
     refine pU 4 37 (bl 32 31) HT_.out ?_
     refine pU 5 38 (bl 32 63) HT_.out ?_
     refine pU 6 39 (bl 32 127) HT_.out ?_
     refine pU 7 40 (bl 32 255) HT_.out ?_
     refine pU 8 41 (bl 32 511) HT_.out ?_
     refine pU 9 42 (bl 32 1023) HT_.out ?_
     refine pU 10 43 (bl 32 2047) HT_.out ?_
     refine pU 11 44 (bl 32 4095) HT_.out ?_
     refine pV 12 45 (bl 32 8191) HT_.out ?_
     refine pV 13 46 (bl 32 16383) HT_.out ?_
     refine pU 14 47 (bl 32 32767) HT_.out ?_
     refine pU 15 48 (bl 32 65535) HT_.out ?_
     refine pU 16 49 (bl 32 131071) HT_.out ?_
     refine pU 17 50 (bl 32 262143) HT_.out ?_
     refine pU 18 51 (bl 32 524287) HT_.out ?_
     refine pU 19 52 (bl 32 1048575) HT_.out ?_
     refine pU 20 53 (bl 32 2097151) HT_.out ?_
     refine pU 21 54 (bl 32 4194303) HT_.out ?_
     refine pV 22 55 (bl 32 8388607) HT_.out ?_
     refine pV 23 56 (bl 32 16777215) HT_.out ?_
     refine pU 24 57 (bl 32 33554431) HT_.out ?_
     refine pU 25 58 (bl 32 67108863) HT_.out ?_
     refine pU 26 59 (bl 32 134217727) HT_.out ?_
     refine pU 27 60 (bl 32 268435455) HT_.out ?_
     refine pU 28 61 (bl 32 536870911) HT_.out ?_
     refine pU 29 62 (bl 32 1073741823) HT_.out ?_
     refine pU 30 63 (bl 32 2147483647) HT_.out ?_
     refine pV 31 64 (bl 32 4294967295) HT_.out ?_
     refine done_ (done_of HT_.out (by kernel_rfl)) ?_
     try go_wp2
     go_meet
     case rel => exact ⟨_, (true), sX, H', ⟨by have := HK1.out; first | omega | exact Nat.le_refl _⟩, ⟨by (with_reducible repeat (first | apply Kd.R_alloc | apply Kd.R_drewN | apply Kd.R_drew)); exact Kd.R_mono HO_6.out (fun _ hk => trivial)⟩, ⟨kX BK254.out⟩, ⟨kX BK258.out⟩, ⟨bX2 GE254.out GE258.out⟩⟩
    case rest =>
     clear HC23
     try clear c1
     try clear p2
     try clear q2
     try clear hx2
     try clear qi2
     try clear c4
     try clear c5
     try clear c10
     try clear p27
     try clear q27
     try clear hx27
     try clear qi27
     try clear c45
     try clear c45b0
     try clear c46
     try clear c46b0
     try clear c46b1
     try clear c47
     try clear c54
     try clear c54b0
     try clear c54b1
     try clear hx270_0
     try clear p270
     try clear q270
     obtain ⟨kq, x64_22, rfl, HA, HJ22, HO_6, BK254, BK258, HB⟩ := hcut
     cases kq with
     | zero => exact absurd HA.out (by simp [r8_rule.j1])
     | succ kj22 =>
      have H := HA.out; clear HA
      simp only [r8_rule.j1] at H
      by_cases c59 : x64_22 = true
      rotate_left
      ·
       replace c59 := Bool.eq_false_iff.mpr c59; subst c59
       have H1 : (if 2 < (t255.length : Int) then ((r2_Parse.f kj22 (rdOf ByteArray.empty t255 2)).bind fun bt273 => (if bt273.2 ≥ 0 then (some (x259000_1, (⟨#[]⟩ : ByteArray), (⟨#[]⟩ : ByteArray), 0, a1, false)) else (if 1 < (t255.length : Int) then (if x259000_1 ≤ 5 then (if 3 < (t255.length : Int) then ((r8_digits.f kj22 (rdOf ByteArray.empty t255 3)).bind fun t277 => (some (x259000_1, rdOf ByteArray.empty t255 1, bt273.1, t277, a1, decide (t277 ≥ 0)))) else (none)) else (some (x259000_1, rdOf ByteArray.empty t255 1, bt273.1, 0, a1, decide (0 ≥ 0)))) else (none)))) else (none)) = some (r1, r2, r3, r4, r5, r6) := by rw [if_neg (show ¬ (false = true) by decide)] at H; exact H
       clear H
       have H := H1
       clear H1
       by_cases c63 : 2 < (t255.length : Int)
       rotate_left
       ·
        rw [if_neg c63] at H
        exact absurd H (by simp)
       rw [if_pos c63] at H; have c63b0 : decide (2 < (t255.length : Int)) = true := decide_eq_true c63
       have c63b1 : decide (2 < t255.length) = true := decide_eq_true (by omega)
       clear c63
       obtain ⟨⟨t273, t274⟩, A64, H⟩ := oC H
       try dsimp only at H
       by_cases c65 : t274 ≥ 0
       rotate_left
       ·
        rw [if_neg c65] at H; have c65b0 : decide (0 ≤ t274) = false := decide_eq_false c65; clear c65
        by_cases c71 : 1 < (t255.length : Int)
        rotate_left
        ·
         rw [if_neg c71] at H
         exact absurd H (by simp)
        rw [if_pos c71] at H; have c71b0 : decide (1 < (t255.length : Int)) = true := decide_eq_true c71
        have c71b1 : decide (1 < t255.length) = true := decide_eq_true (by omega)
        clear c71
        by_cases c72 : x259000_1 ≤ 5
        rotate_left
        ·
         rw [if_neg c72] at H; have c72b0 : decide (x259000_1 ≤ 5) = false := decide_eq_false c72; clear c72
         simp only [Option.some.injEq, Prod.mk.injEq] at H
         obtain ⟨rfl, rfl, rfl, rfl, rfl, rfl⟩ := H
         obtain ⟨Ao86, co86, eo86⟩ := Kd.R_slice HO_6.out
         subst eo86
         have p272 : 0 ≤ (2 : Int) := (by omega)
         have q272 : 2 < (t255.length : Int) := oA
         obtain ⟨ad272, e272, hx272_0⟩ := Kd.at_string (Kd.R_reads' HO_6.out).2.2 2 p272 q272
         cases e272
         (try simp only [show (2 : Int).toNat = 2 from rfl, Nat.reduceMul, Nat.reduceEqDiff, Go.Addr.add, ↓reduceIte] at hx272_0)
         have qi272 : (2 < t255.length) = True := eq_true (by omega)
         (try rw [show ((2 : Int)).toNat = 2 from rfl] at hx272_0)
         replace p272 := eq_true p272; replace q272 := eq_true q272
         try go_wp2_with (first | ((with_reducible refine gate_callee (f := 127) rfl ?_); refine gO 70 Tryz.func127 #[.string (rdOf ByteArray.empty t255 2)] ?_; (with_reducible refine (r2_Parse.calls kj22 (rdOf ByteArray.empty t255 2) t273 t274 _ A64.out).mono ?_); rintro e w87 ⟨rfl, hb⟩; refine ⟨_, rfl, ?_⟩; replace HO_6 := aK (Kd.R_below (rX HO_6.out) hb); replace BK254 := aK (kBe (g := gb254) (o := .cells #[.int .i64 0, .string (⟨#[]⟩ : ByteArray), .string (⟨#[]⟩ : ByteArray), .int .i64 0, .int .i64 0] 50 (0, 0)) (kX BK254.out) hb); replace BK258 := aK (kBe (g := gb258) (o := .cells #[.int .i64 x259000_1, .string (⟨#[]⟩ : ByteArray), .string (⟨#[]⟩ : ByteArray), .int .i64 0, .int .i64 a1] 50 (0, 0)) (kX BK258.out) hb); replace HB := aK (bSp (bX2 GE254.out GE258.out) hb); clear hb; have p275 : 0 ≤ (1 : Int) := (by omega); have q275 : 1 < (t255.length : Int) := oA; obtain ⟨ad275, e275, hx275_0⟩ := Kd.at_string (Kd.R_reads' HO_6.out).2.2 1 p275 q275; obtain rfl : ad272 = ad275 := (by injection e275); (try simp only [show (1 : Int).toNat = 1 from rfl, Nat.reduceMul, Nat.reduceEqDiff, Go.Addr.add, ↓reduceIte] at hx275_0); have qi275 : (1 < t255.length) = True := eq_true (by omega); (try rw [show ((1 : Int)).toNat = 1 from rfl] at hx275_0); replace p275 := eq_true p275; replace q275 := eq_true q275; have hnb88 := NB258_254.out; have hnc88 := NB254_258.out; have hcz89_0 : w87.cell? ⟨gb258, 0, none⟩ = some (.int .i64 x259000_1) := (kCe BK258.out 0).trans rfl; have hcz89_1 : w87.cell? ⟨gb258, 1, none⟩ = some (.string (⟨#[]⟩ : ByteArray)) := (kCe BK258.out 1).trans rfl; have hcz89_2 : w87.cell? ⟨gb258, 2, none⟩ = some (.string (⟨#[]⟩ : ByteArray)) := (kCe BK258.out 2).trans rfl; have hcz89_3 : w87.cell? ⟨gb258, 3, none⟩ = some (.int .i64 0) := (kCe BK258.out 3).trans rfl; have hcz89_4 : w87.cell? ⟨gb258, 4, none⟩ = some (.int .i64 a1) := (kCe BK258.out 4).trans rfl; have hfz89_0 := bFz BK258.out 0; have hfz89_1 := bFz BK258.out 1; have hfz89_2 := bFz BK258.out 2; have hfz89_3 := bFz BK258.out 3; have hfz89_4 := bFz BK258.out 4))
         have n0_ : Aside0 (Kd.R Kd.string 9 ((w87.setCell ⟨gb258, 1, none⟩ (.string (rdOf ByteArray.empty t255 1))).setCell ⟨gb258, 2, none⟩ (.string t273)) w.heap.size (fun _ => True) (.slice (some ad272) t255.length co86) t255) := ⟨by (with_reducible repeat (first | apply Kd.R_alloc | apply Kd.R_drewN | apply Kd.R_drew)); exact Kd.R_mono (Kd.R_far (p := ⟨gb258, 2, none⟩) (Kd.R_far (p := ⟨gb258, 1, none⟩) (Kd.R_types HO_6.out BK258.out (by decide)) (fun _ hk => hk.2) (.string (rdOf ByteArray.empty t255 1))) (fun _ hk => hk.2) (.string t273)) (fun _ hk => trivial)⟩
         have n1_ : Aside0 (((w87.setCell ⟨gb258, 1, none⟩ (.string (rdOf ByteArray.empty t255 1))).setCell ⟨gb258, 2, none⟩ (.string t273)).heap[gb254]? = some (.cells #[.int .i64 0, .string (⟨#[]⟩ : ByteArray), .string (⟨#[]⟩ : ByteArray), .int .i64 0, .int .i64 0] 50 (0, 0))) := ⟨by (with_reducible repeat (first | refine kDN ?_ _ | refine kDr ?_ | refine kAl ?_ _)); refine blk_far ?_ NB254_258.out _; (with_reducible repeat (first | refine kDN ?_ _ | refine kDr ?_ | refine kAl ?_ _)); refine blk_far ?_ NB254_258.out _; (with_reducible repeat (first | refine kDN ?_ _ | refine kDr ?_ | refine kAl ?_ _)); exact BK254.out⟩
         have n2_ : Aside0 (((w87.setCell ⟨gb258, 1, none⟩ (.string (rdOf ByteArray.empty t255 1))).setCell ⟨gb258, 2, none⟩ (.string t273)).heap[gb258]? = some (.cells #[.int .i64 x259000_1, .string (rdOf ByteArray.empty t255 1), .string t273, .int .i64 0, .int .i64 a1] 50 (0, 0))) := ⟨by (with_reducible repeat (first | refine kDN ?_ _ | refine kDr ?_ | refine kAl ?_ _)); refine blk_put (cs := #[.int .i64 x259000_1, .string (rdOf ByteArray.empty t255 1), .string (⟨#[]⟩ : ByteArray), .int .i64 0, .int .i64 a1]) ?_ 2 _ rfl; (with_reducible repeat (first | refine kDN ?_ _ | refine kDr ?_ | refine kAl ?_ _)); refine blk_put (cs := #[.int .i64 x259000_1, .string (⟨#[]⟩ : ByteArray), .string (⟨#[]⟩ : ByteArray), .int .i64 0, .int .i64 a1]) ?_ 1 _ rfl; (with_reducible repeat (first | refine kDN ?_ _ | refine kDr ?_ | refine kAl ?_ _)); exact BK258.out⟩
         have n3_ : Aside0 (Below w.heap.size w ((w87.setCell ⟨gb258, 1, none⟩ (.string (rdOf ByteArray.empty t255 1))).setCell ⟨gb258, 2, none⟩ (.string t273))) := ⟨bX2 GE254.out GE258.out⟩
         (try clear HO_6)
         (try clear BK254)
         (try clear BK258)
         (try clear HB)
         repeat rw [setCell_drewN]
         generalize ((w87.setCell ⟨gb258, 1, none⟩ (.string (rdOf ByteArray.empty t255 1))).setCell ⟨gb258, 2, none⟩ (.string t273)) = w90 at n0_ n1_ n2_ n3_ ⊢
         have HO_6 := n0_
         have BK254 := n1_
         have BK258 := n2_
         have HB := n3_
         clear n0_ n1_ n2_ n3_
         have n0_ := aK (Kd.R_drew HO_6.out)
         have n1_ := aK (kDr BK254.out)
         have n2_ := aK (kDr BK258.out)
         have n3_ := aK (bD1 HB.out)
         clear HO_6; clear BK254; clear BK258; clear HB
         have HO_6 := n0_
         have BK254 := n1_
         have BK258 := n2_
         have HB := n3_
         clear n0_ n1_ n2_ n3_
         refine start_ (n := 6) (S := fun w' => w'.cell? ⟨gb258, 0, none⟩ = some (.int .i64 x259000_1) ∧ w'.cell? ⟨gb258, 1, none⟩ = some (.string (rdOf ByteArray.empty t255 1)) ∧ w'.cell? ⟨gb258, 2, none⟩ = some (.string t273) ∧ w'.cell? ⟨gb258, 3, none⟩ = some (.int .i64 0) ∧ w'.cell? ⟨gb258, 4, none⟩ = some (.int .i64 a1)) (ds := []) (bl 6 0) (by kernel_rfl) rfl (by kernel_rfl) ⟨(kCe BK258.out 0).trans rfl, (kCe BK258.out 1).trans rfl, (kCe BK258.out 2).trans rfl, (kCe BK258.out 3).trans rfl, (kCe BK258.out 4).trans rfl⟩ (fun hHeld => ?_)
         generalize w90.drew = w91 at HO_6 BK254 BK258 HB hHeld ⊢
         refine pure_ (i := 1) (N := some 91) (v := ?_) (a' := ?_) (bl 6 2) rfl rfl (by kernel_rfl) (fun _ _ _ h => h) (Or.inl ⟨by rfl, ?_⟩) ?_ ?_
         rotate_left
         ·
          intro w'
          go_simp
          with_reducible rfl
         rotate_left
         ·
          simp only [Act.put, qSa, qS0, qS1, i64_w, i32_w]
          rfl
         refine take_ (i := 0) (N := some 90) (v := ?_) (a' := ?_) (bl 6 3) rfl rfl (by kernel_rfl) (fun _ _ _ h => h) (Or.inl ⟨by rfl, ?_⟩) hHeld ?_ ?_
         rotate_left
         ·
          rintro w' ⟨s0, s1, s2, s3, s4⟩
          go_simp
          with_reducible rfl
         rotate_left
         ·
          simp only [Act.put, qSa, qS0, qS1, i64_w, i32_w]
          rfl
         refine take_ (i := 2) (N := some 92) (v := ?_) (a' := ?_) (bl 6 7) rfl rfl (by kernel_rfl) (fun _ _ _ h => h) (Or.inl ⟨by rfl, ?_⟩) hHeld ?_ ?_
         rotate_left
         ·
          rintro w' ⟨s0, s1, s2, s3, s4⟩
          go_simp
          with_reducible rfl
         rotate_left
         ·
          simp only [Act.put, qSa, qS0, qS1, i64_w, i32_w]
          rfl
         refine pure_ (i := 3) (N := some 93) (v := ?_) (a' := ?_) (bl 6 15) rfl rfl (by kernel_rfl) (fun _ _ _ h => h) (Or.inl ⟨by rfl, ?_⟩) ?_ ?_
         rotate_left
         ·
          intro w'
          go_simp
          with_reducible rfl
         rotate_left
         ·
          simp only [Act.put, qSa, qS0, qS1, i64_w, i32_w]
          rfl
         refine one_ (i := 4) (N := none) (bl 6 31) rfl rfl (by kernel_rfl) (by decide) (fun K hK => ?_)
         have hs92 : w91.cell? ⟨gb254, 0, none⟩ = some (.int .i64 0) := (kCe BK254.out 0).trans rfl
         have hfs92 := bFz BK254.out 0; have hns92_1 := NB258_254.out; have hms92_1 := NB254_258.out
         have hs93 : w91.cell? ⟨gb254, 1, none⟩ = some (.string (⟨#[]⟩ : ByteArray)) := (kCe BK254.out 1).trans rfl
         have hfs93 := bFz BK254.out 1; have hns93_1 := NB258_254.out; have hms93_1 := NB254_258.out
         have hs94 : w91.cell? ⟨gb254, 2, none⟩ = some (.string (⟨#[]⟩ : ByteArray)) := (kCe BK254.out 2).trans rfl
         have hfs94 := bFz BK254.out 2; have hns94_1 := NB258_254.out; have hms94_1 := NB254_258.out
         have hs95 : w91.cell? ⟨gb254, 3, none⟩ = some (.int .i64 0) := (kCe BK254.out 3).trans rfl
         have hfs95 := bFz BK254.out 3; have hns95_1 := NB258_254.out; have hms95_1 := NB254_258.out
         have hs96 : w91.cell? ⟨gb254, 4, none⟩ = some (.int .i64 0) := (kCe BK254.out 4).trans rfl
         have hfs96 := bFz BK254.out 4; have hns96_1 := NB258_254.out; have hms96_1 := NB254_258.out
         refine skip_ (w1 := ?_) (by rfl) rfl ?_ ?_
         rotate_left
         ·
          go_simp
          rfl
         refine hK.out _ _ ⟨((cell_far (p := ⟨gb254, _, none⟩) NB258_254.out _).trans (((cell_far (p := ⟨gb254, _, none⟩) NB258_254.out _).trans (((cell_far (p := ⟨gb254, _, none⟩) NB258_254.out _).trans (((cell_far (p := ⟨gb254, _, none⟩) NB258_254.out _).trans (((cell_far (p := ⟨gb254, _, none⟩) NB258_254.out _).trans (hHeld.1)))))))))), ((cell_far (p := ⟨gb254, _, none⟩) NB258_254.out _).trans (((cell_far (p := ⟨gb254, _, none⟩) NB258_254.out _).trans (((cell_far (p := ⟨gb254, _, none⟩) NB258_254.out _).trans (((cell_far (p := ⟨gb254, _, none⟩) NB258_254.out _).trans (((cell_far (p := ⟨gb254, _, none⟩) NB258_254.out _).trans (hHeld.2.1)))))))))), ((cell_far (p := ⟨gb254, _, none⟩) NB258_254.out _).trans (((cell_far (p := ⟨gb254, _, none⟩) NB258_254.out _).trans (((cell_far (p := ⟨gb254, _, none⟩) NB258_254.out _).trans (((cell_far (p := ⟨gb254, _, none⟩) NB258_254.out _).trans (((cell_far (p := ⟨gb254, _, none⟩) NB258_254.out _).trans (hHeld.2.2.1)))))))))), ((cell_far (p := ⟨gb254, _, none⟩) NB258_254.out _).trans (((cell_far (p := ⟨gb254, _, none⟩) NB258_254.out _).trans (((cell_far (p := ⟨gb254, _, none⟩) NB258_254.out _).trans (((cell_far (p := ⟨gb254, _, none⟩) NB258_254.out _).trans (((cell_far (p := ⟨gb254, _, none⟩) NB258_254.out _).trans (hHeld.2.2.2.1)))))))))), ((cell_far (p := ⟨gb254, _, none⟩) NB258_254.out _).trans (((cell_far (p := ⟨gb254, _, none⟩) NB258_254.out _).trans (((cell_far (p := ⟨gb254, _, none⟩) NB258_254.out _).trans (((cell_far (p := ⟨gb254, _, none⟩) NB258_254.out _).trans (((cell_far (p := ⟨gb254, _, none⟩) NB258_254.out _).trans (hHeld.2.2.2.2))))))))))⟩ (fun hHeld => ?_)
         clear hK K
         refine pure_ (i := 5) (N := some 5) (v := ?_) (a' := ?_) (bl 6 63) rfl rfl (by kernel_rfl) (fun _ _ _ h => h) (Or.inl ⟨by rfl, ?_⟩) ?_ ?_
         rotate_left
         ·
          intro w'
          go_simp
          with_reducible rfl
         rotate_left
         ·
          simp only [Act.put, qSa, qS0, qS1, i64_w, i32_w]
          rfl
         refine done_ (by kernel_rfl) ?_
         try go_wp2
         refine bodyPost_ret (results_ct rfl _ _ gb254 50 #[.int .i64 x259000_1, .string (rdOf ByteArray.empty t255 1), .string t273, .int .i64 0, .int .i64 a1] (0, 0) _ rfl (by (with_reducible repeat (first | refine kDN ?_ _ | refine kDr ?_ | refine kAl ?_ _)); refine blk_put (cs := #[.int .i64 x259000_1, .string (rdOf ByteArray.empty t255 1), .string t273, .int .i64 0, .int .i64 0]) ?_ 4 _ rfl; (with_reducible repeat (first | refine kDN ?_ _ | refine kDr ?_ | refine kAl ?_ _)); refine blk_put (cs := #[.int .i64 x259000_1, .string (rdOf ByteArray.empty t255 1), .string t273, .int .i64 0, .int .i64 0]) ?_ 3 _ rfl; (with_reducible repeat (first | refine kDN ?_ _ | refine kDr ?_ | refine kAl ?_ _)); refine blk_put (cs := #[.int .i64 x259000_1, .string (rdOf ByteArray.empty t255 1), .string (⟨#[]⟩ : ByteArray), .int .i64 0, .int .i64 0]) ?_ 2 _ rfl; (with_reducible repeat (first | refine kDN ?_ _ | refine kDr ?_ | refine kAl ?_ _)); refine blk_put (cs := #[.int .i64 x259000_1, .string (⟨#[]⟩ : ByteArray), .string (⟨#[]⟩ : ByteArray), .int .i64 0, .int .i64 0]) ?_ 1 _ rfl; (with_reducible repeat (first | refine kDN ?_ _ | refine kDr ?_ | refine kAl ?_ _)); refine blk_put (cs := #[.int .i64 0, .string (⟨#[]⟩ : ByteArray), .string (⟨#[]⟩ : ByteArray), .int .i64 0, .int .i64 0]) ?_ 0 _ rfl; (with_reducible repeat (first | refine kDN ?_ _ | refine kDr ?_ | refine kAl ?_ _)); exact BK254.out) Tryz.underlying50 rfl (by kernel_rfl)) rfl ?_
         exact ⟨eX, bX2 GE254.out GE258.out⟩
        rw [if_pos c72] at H; have c72b0 : decide (x259000_1 ≤ 5) = true := decide_eq_true c72; clear c72
        by_cases c73 : 3 < (t255.length : Int)
        rotate_left
        ·
         rw [if_neg c73] at H
         exact absurd H (by simp)
        rw [if_pos c73] at H; have c73b0 : decide (3 < (t255.length : Int)) = true := decide_eq_true c73
        have c73b1 : decide (3 < t255.length) = true := decide_eq_true (by omega)
        clear c73; obtain ⟨t277, A74, H⟩ := oC H
        try dsimp only at H
        simp only [Option.some.injEq, Prod.mk.injEq] at H
        obtain ⟨rfl, rfl, rfl, rfl, rfl, rfl⟩ := H
        obtain ⟨Ao75, co75, eo75⟩ := Kd.R_slice HO_6.out
        subst eo75
        have p272 : 0 ≤ (2 : Int) := (by omega)
        have q272 : 2 < (t255.length : Int) := oA
        obtain ⟨ad272, e272, hx272_0⟩ := Kd.at_string (Kd.R_reads' HO_6.out).2.2 2 p272 q272
        cases e272
        (try simp only [show (2 : Int).toNat = 2 from rfl, Nat.reduceMul, Nat.reduceEqDiff, Go.Addr.add, ↓reduceIte] at hx272_0)
        have qi272 : (2 < t255.length) = True := eq_true (by omega)
        (try rw [show ((2 : Int)).toNat = 2 from rfl] at hx272_0)
        replace p272 := eq_true p272; replace q272 := eq_true q272
        try go_wp2_with (first | ((with_reducible refine gate_callee (f := 127) rfl ?_); refine gO 70 Tryz.func127 #[.string (rdOf ByteArray.empty t255 2)] ?_; (with_reducible refine (r2_Parse.calls kj22 (rdOf ByteArray.empty t255 2) t273 t274 _ A64.out).mono ?_); rintro e w76 ⟨rfl, hb⟩; refine ⟨_, rfl, ?_⟩; replace HO_6 := aK (Kd.R_below (rX HO_6.out) hb); replace BK254 := aK (kBe (g := gb254) (o := .cells #[.int .i64 0, .string (⟨#[]⟩ : ByteArray), .string (⟨#[]⟩ : ByteArray), .int .i64 0, .int .i64 0] 50 (0, 0)) (kX BK254.out) hb); replace BK258 := aK (kBe (g := gb258) (o := .cells #[.int .i64 x259000_1, .string (⟨#[]⟩ : ByteArray), .string (⟨#[]⟩ : ByteArray), .int .i64 0, .int .i64 a1] 50 (0, 0)) (kX BK258.out) hb); replace HB := aK (bSp (bX2 GE254.out GE258.out) hb); clear hb; have p275 : 0 ≤ (1 : Int) := (by omega); have q275 : 1 < (t255.length : Int) := oA; obtain ⟨ad275, e275, hx275_0⟩ := Kd.at_string (Kd.R_reads' HO_6.out).2.2 1 p275 q275; obtain rfl : ad272 = ad275 := (by injection e275); (try simp only [show (1 : Int).toNat = 1 from rfl, Nat.reduceMul, Nat.reduceEqDiff, Go.Addr.add, ↓reduceIte] at hx275_0); have qi275 : (1 < t255.length) = True := eq_true (by omega); (try rw [show ((1 : Int)).toNat = 1 from rfl] at hx275_0); replace p275 := eq_true p275; replace q275 := eq_true q275; have hnb77 := NB258_254.out; have hnc77 := NB254_258.out; have hcz78_0 : w76.cell? ⟨gb258, 0, none⟩ = some (.int .i64 x259000_1) := (kCe BK258.out 0).trans rfl; have hcz78_1 : w76.cell? ⟨gb258, 1, none⟩ = some (.string (⟨#[]⟩ : ByteArray)) := (kCe BK258.out 1).trans rfl; have hcz78_2 : w76.cell? ⟨gb258, 2, none⟩ = some (.string (⟨#[]⟩ : ByteArray)) := (kCe BK258.out 2).trans rfl; have hcz78_3 : w76.cell? ⟨gb258, 3, none⟩ = some (.int .i64 0) := (kCe BK258.out 3).trans rfl; have hcz78_4 : w76.cell? ⟨gb258, 4, none⟩ = some (.int .i64 a1) := (kCe BK258.out 4).trans rfl; have hfz78_0 := bFz BK258.out 0; have hfz78_1 := bFz BK258.out 1; have hfz78_2 := bFz BK258.out 2; have hfz78_3 := bFz BK258.out 3; have hfz78_4 := bFz BK258.out 4; have p276 : 0 ≤ (3 : Int) := (by omega); have q276 : 3 < (t255.length : Int) := oA; obtain ⟨ad276, e276, hx276_0⟩ := Kd.at_string (Kd.R_reads' HO_6.out).2.2 3 p276 q276; obtain rfl : ad272 = ad276 := (by injection e276); (try simp only [show (3 : Int).toNat = 3 from rfl, Nat.reduceMul, Nat.reduceEqDiff, Go.Addr.add, ↓reduceIte] at hx276_0); have qi276 : (3 < t255.length) = True := eq_true (by omega); (try rw [show ((3 : Int)).toNat = 3 from rfl] at hx276_0); have hn276_0 : ad272.block ≠ gb258 := Kd.own_blk (Kd.R_ne HO_6.out BK258.out (by decide)); have hn276_1 : ad272.block ≠ gb258 := Kd.own_blk (Kd.R_ne HO_6.out BK258.out (by decide)); replace hx276_0 := (cell_far (p := ⟨gb258, 1, none⟩) (by first | (rw [add_block]; exact hn276_0) | (show (Addr.add _ _).block ≠ _; rw [add_block]; exact hn276_0) | exact hn276_0) (.string (rdOf ByteArray.empty t255 1))).trans hx276_0; replace hx276_0 := (cell_far (p := ⟨gb258, 2, none⟩) (by first | (rw [add_block]; exact hn276_1) | (show (Addr.add _ _).block ≠ _; rw [add_block]; exact hn276_1) | exact hn276_1) (.string t273)).trans hx276_0; clear hn276_0; clear hn276_1; replace p276 := eq_true p276; replace q276 := eq_true q276) | ((with_reducible refine gate_callee (f := 128) rfl ?_); refine gO 88 Tryz.func128 #[.string (rdOf ByteArray.empty t255 3)] ?_; (with_reducible refine (r8_digits.calls kj22 (rdOf ByteArray.empty t255 3) t277 _ A74.out).mono ?_); rintro e w' ⟨rfl, ⟨nd, rfl⟩⟩; refine ⟨_, rfl, ?_⟩))
        have n0_ : Aside0 (Kd.R Kd.string 9 (((w76.setCell ⟨gb258, 1, none⟩ (.string (rdOf ByteArray.empty t255 1))).setCell ⟨gb258, 2, none⟩ (.string t273)).setCell ⟨gb258, 3, none⟩ (.int .i64 t277)) w.heap.size (fun _ => True) (.slice (some ad272) t255.length co75) t255) := ⟨by (with_reducible repeat (first | apply Kd.R_alloc | apply Kd.R_drewN | apply Kd.R_drew)); exact Kd.R_mono (Kd.R_far (p := ⟨gb258, 3, none⟩) (Kd.R_far (p := ⟨gb258, 2, none⟩) (Kd.R_far (p := ⟨gb258, 1, none⟩) (Kd.R_types HO_6.out BK258.out (by decide)) (fun _ hk => hk.2) (.string (rdOf ByteArray.empty t255 1))) (fun _ hk => hk.2) (.string t273)) (fun _ hk => hk.2) (.int .i64 t277)) (fun _ hk => trivial)⟩
        have n1_ : Aside0 ((((w76.setCell ⟨gb258, 1, none⟩ (.string (rdOf ByteArray.empty t255 1))).setCell ⟨gb258, 2, none⟩ (.string t273)).setCell ⟨gb258, 3, none⟩ (.int .i64 t277)).heap[gb254]? = some (.cells #[.int .i64 0, .string (⟨#[]⟩ : ByteArray), .string (⟨#[]⟩ : ByteArray), .int .i64 0, .int .i64 0] 50 (0, 0))) := ⟨by (with_reducible repeat (first | refine kDN ?_ _ | refine kDr ?_ | refine kAl ?_ _)); refine blk_far ?_ NB254_258.out _; (with_reducible repeat (first | refine kDN ?_ _ | refine kDr ?_ | refine kAl ?_ _)); refine blk_far ?_ NB254_258.out _; (with_reducible repeat (first | refine kDN ?_ _ | refine kDr ?_ | refine kAl ?_ _)); refine blk_far ?_ NB254_258.out _; (with_reducible repeat (first | refine kDN ?_ _ | refine kDr ?_ | refine kAl ?_ _)); exact BK254.out⟩
        have n2_ : Aside0 ((((w76.setCell ⟨gb258, 1, none⟩ (.string (rdOf ByteArray.empty t255 1))).setCell ⟨gb258, 2, none⟩ (.string t273)).setCell ⟨gb258, 3, none⟩ (.int .i64 t277)).heap[gb258]? = some (.cells #[.int .i64 x259000_1, .string (rdOf ByteArray.empty t255 1), .string t273, .int .i64 t277, .int .i64 a1] 50 (0, 0))) := ⟨by (with_reducible repeat (first | refine kDN ?_ _ | refine kDr ?_ | refine kAl ?_ _)); refine blk_put (cs := #[.int .i64 x259000_1, .string (rdOf ByteArray.empty t255 1), .string t273, .int .i64 0, .int .i64 a1]) ?_ 3 _ rfl; (with_reducible repeat (first | refine kDN ?_ _ | refine kDr ?_ | refine kAl ?_ _)); refine blk_put (cs := #[.int .i64 x259000_1, .string (rdOf ByteArray.empty t255 1), .string (⟨#[]⟩ : ByteArray), .int .i64 0, .int .i64 a1]) ?_ 2 _ rfl; (with_reducible repeat (first | refine kDN ?_ _ | refine kDr ?_ | refine kAl ?_ _)); refine blk_put (cs := #[.int .i64 x259000_1, .string (⟨#[]⟩ : ByteArray), .string (⟨#[]⟩ : ByteArray), .int .i64 0, .int .i64 a1]) ?_ 1 _ rfl; (with_reducible repeat (first | refine kDN ?_ _ | refine kDr ?_ | refine kAl ?_ _)); exact BK258.out⟩
        have n3_ : Aside0 (Below w.heap.size w (((w76.setCell ⟨gb258, 1, none⟩ (.string (rdOf ByteArray.empty t255 1))).setCell ⟨gb258, 2, none⟩ (.string t273)).setCell ⟨gb258, 3, none⟩ (.int .i64 t277))) := ⟨bX2 GE254.out GE258.out⟩
        (try clear HO_6)
        (try clear BK254)
        (try clear BK258)
        (try clear HB)
        repeat rw [setCell_drewN]
        generalize (((w76.setCell ⟨gb258, 1, none⟩ (.string (rdOf ByteArray.empty t255 1))).setCell ⟨gb258, 2, none⟩ (.string t273)).setCell ⟨gb258, 3, none⟩ (.int .i64 t277)) = w79 at n0_ n1_ n2_ n3_ ⊢
        have HO_6 := n0_
        have BK254 := n1_
        have BK258 := n2_
        have HB := n3_
        clear n0_ n1_ n2_ n3_
        (try (rw [drewN_self w79]; generalize hq_ : World.drewN w79 _ = w79; have n0_ : Aside0 (Kd.R Kd.string 9 w79 w.heap.size (fun _ => True) (.slice (some ad272) t255.length co75) t255) := ⟨by rw [← hq_]; exact (rX HO_6.out)⟩; have n1_ : Aside0 (w79.heap[gb254]? = some (.cells #[.int .i64 0, .string (⟨#[]⟩ : ByteArray), .string (⟨#[]⟩ : ByteArray), .int .i64 0, .int .i64 0] 50 (0, 0))) := ⟨by rw [← hq_]; exact (kX BK254.out)⟩; have n2_ : Aside0 (w79.heap[gb258]? = some (.cells #[.int .i64 x259000_1, .string (rdOf ByteArray.empty t255 1), .string t273, .int .i64 t277, .int .i64 a1] 50 (0, 0))) := ⟨by rw [← hq_]; exact (kX BK258.out)⟩; have n3_ : Aside0 (Below w.heap.size w w79) := ⟨by rw [← hq_]; exact (bX2 GE254.out GE258.out)⟩; clear HO_6 BK254 BK258 HB hq_; have HO_6 := n0_; have BK254 := n1_; have BK258 := n2_; have HB := n3_; clear n0_ n1_ n2_ n3_))
        have n0_ := aK (Kd.R_drew HO_6.out)
        have n1_ := aK (kDr BK254.out)
        have n2_ := aK (kDr BK258.out)
        have n3_ := aK (bD1 HB.out)
        clear HO_6; clear BK254; clear BK258; clear HB
        have HO_6 := n0_
        have BK254 := n1_
        have BK258 := n2_
        have HB := n3_
        clear n0_ n1_ n2_ n3_
        refine start_ (n := 6) (S := fun w' => w'.cell? ⟨gb258, 0, none⟩ = some (.int .i64 x259000_1) ∧ w'.cell? ⟨gb258, 1, none⟩ = some (.string (rdOf ByteArray.empty t255 1)) ∧ w'.cell? ⟨gb258, 2, none⟩ = some (.string t273) ∧ w'.cell? ⟨gb258, 3, none⟩ = some (.int .i64 t277) ∧ w'.cell? ⟨gb258, 4, none⟩ = some (.int .i64 a1)) (ds := []) (bl 6 0) (by kernel_rfl) rfl (by kernel_rfl) ⟨(kCe BK258.out 0).trans rfl, (kCe BK258.out 1).trans rfl, (kCe BK258.out 2).trans rfl, (kCe BK258.out 3).trans rfl, (kCe BK258.out 4).trans rfl⟩ (fun hHeld => ?_)
        generalize w79.drew = w80 at HO_6 BK254 BK258 HB hHeld ⊢
        refine pure_ (i := 1) (N := some 91) (v := ?_) (a' := ?_) (bl 6 2) rfl rfl (by kernel_rfl) (fun _ _ _ h => h) (Or.inl ⟨by rfl, ?_⟩) ?_ ?_
        rotate_left
        ·
         intro w'
         go_simp
         with_reducible rfl
        rotate_left
        ·
         simp only [Act.put, qSa, qS0, qS1, i64_w, i32_w]
         rfl
        refine take_ (i := 0) (N := some 90) (v := ?_) (a' := ?_) (bl 6 3) rfl rfl (by kernel_rfl) (fun _ _ _ h => h) (Or.inl ⟨by rfl, ?_⟩) hHeld ?_ ?_
        rotate_left
        ·
         rintro w' ⟨s0, s1, s2, s3, s4⟩
         go_simp
         with_reducible rfl
        rotate_left
        ·
         simp only [Act.put, qSa, qS0, qS1, i64_w, i32_w]
         rfl
        refine take_ (i := 2) (N := some 92) (v := ?_) (a' := ?_) (bl 6 7) rfl rfl (by kernel_rfl) (fun _ _ _ h => h) (Or.inl ⟨by rfl, ?_⟩) hHeld ?_ ?_
        rotate_left
        ·
         rintro w' ⟨s0, s1, s2, s3, s4⟩
         go_simp
         with_reducible rfl
        rotate_left
        ·
         simp only [Act.put, qSa, qS0, qS1, i64_w, i32_w]
         rfl
        refine pure_ (i := 3) (N := some 93) (v := ?_) (a' := ?_) (bl 6 15) rfl rfl (by kernel_rfl) (fun _ _ _ h => h) (Or.inl ⟨by rfl, ?_⟩) ?_ ?_
        rotate_left
        ·
         intro w'
         go_simp
         with_reducible rfl
        rotate_left
        ·
         simp only [Act.put, qSa, qS0, qS1, i64_w, i32_w]
         rfl
        refine one_ (i := 4) (N := none) (bl 6 31) rfl rfl (by kernel_rfl) (by decide) (fun K hK => ?_)
        have hs81 : w80.cell? ⟨gb254, 0, none⟩ = some (.int .i64 0) := (kCe BK254.out 0).trans rfl
        have hfs81 := bFz BK254.out 0; have hns81_1 := NB258_254.out; have hms81_1 := NB254_258.out
        have hs82 : w80.cell? ⟨gb254, 1, none⟩ = some (.string (⟨#[]⟩ : ByteArray)) := (kCe BK254.out 1).trans rfl
        have hfs82 := bFz BK254.out 1; have hns82_1 := NB258_254.out; have hms82_1 := NB254_258.out
        have hs83 : w80.cell? ⟨gb254, 2, none⟩ = some (.string (⟨#[]⟩ : ByteArray)) := (kCe BK254.out 2).trans rfl
        have hfs83 := bFz BK254.out 2; have hns83_1 := NB258_254.out; have hms83_1 := NB254_258.out
        have hs84 : w80.cell? ⟨gb254, 3, none⟩ = some (.int .i64 0) := (kCe BK254.out 3).trans rfl
        have hfs84 := bFz BK254.out 3; have hns84_1 := NB258_254.out; have hms84_1 := NB254_258.out
        have hs85 : w80.cell? ⟨gb254, 4, none⟩ = some (.int .i64 0) := (kCe BK254.out 4).trans rfl
        have hfs85 := bFz BK254.out 4; have hns85_1 := NB258_254.out; have hms85_1 := NB254_258.out
        refine skip_ (w1 := ?_) (by rfl) rfl ?_ ?_
        rotate_left
        ·
         go_simp
         rfl
        refine hK.out _ _ ⟨((cell_far (p := ⟨gb254, _, none⟩) NB258_254.out _).trans (((cell_far (p := ⟨gb254, _, none⟩) NB258_254.out _).trans (((cell_far (p := ⟨gb254, _, none⟩) NB258_254.out _).trans (((cell_far (p := ⟨gb254, _, none⟩) NB258_254.out _).trans (((cell_far (p := ⟨gb254, _, none⟩) NB258_254.out _).trans (hHeld.1)))))))))), ((cell_far (p := ⟨gb254, _, none⟩) NB258_254.out _).trans (((cell_far (p := ⟨gb254, _, none⟩) NB258_254.out _).trans (((cell_far (p := ⟨gb254, _, none⟩) NB258_254.out _).trans (((cell_far (p := ⟨gb254, _, none⟩) NB258_254.out _).trans (((cell_far (p := ⟨gb254, _, none⟩) NB258_254.out _).trans (hHeld.2.1)))))))))), ((cell_far (p := ⟨gb254, _, none⟩) NB258_254.out _).trans (((cell_far (p := ⟨gb254, _, none⟩) NB258_254.out _).trans (((cell_far (p := ⟨gb254, _, none⟩) NB258_254.out _).trans (((cell_far (p := ⟨gb254, _, none⟩) NB258_254.out _).trans (((cell_far (p := ⟨gb254, _, none⟩) NB258_254.out _).trans (hHeld.2.2.1)))))))))), ((cell_far (p := ⟨gb254, _, none⟩) NB258_254.out _).trans (((cell_far (p := ⟨gb254, _, none⟩) NB258_254.out _).trans (((cell_far (p := ⟨gb254, _, none⟩) NB258_254.out _).trans (((cell_far (p := ⟨gb254, _, none⟩) NB258_254.out _).trans (((cell_far (p := ⟨gb254, _, none⟩) NB258_254.out _).trans (hHeld.2.2.2.1)))))))))), ((cell_far (p := ⟨gb254, _, none⟩) NB258_254.out _).trans (((cell_far (p := ⟨gb254, _, none⟩) NB258_254.out _).trans (((cell_far (p := ⟨gb254, _, none⟩) NB258_254.out _).trans (((cell_far (p := ⟨gb254, _, none⟩) NB258_254.out _).trans (((cell_far (p := ⟨gb254, _, none⟩) NB258_254.out _).trans (hHeld.2.2.2.2))))))))))⟩ (fun hHeld => ?_)
        clear hK K
        refine pure_ (i := 5) (N := some 5) (v := ?_) (a' := ?_) (bl 6 63) rfl rfl (by kernel_rfl) (fun _ _ _ h => h) (Or.inl ⟨by rfl, ?_⟩) ?_ ?_
        rotate_left
        ·
         intro w'
         go_simp
         with_reducible rfl
        rotate_left
        ·
         simp only [Act.put, qSa, qS0, qS1, i64_w, i32_w]
         rfl
        refine done_ (by kernel_rfl) ?_
        try go_wp2
        refine bodyPost_ret (results_ct rfl _ _ gb254 50 #[.int .i64 x259000_1, .string (rdOf ByteArray.empty t255 1), .string t273, .int .i64 t277, .int .i64 a1] (0, 0) _ rfl (by (with_reducible repeat (first | refine kDN ?_ _ | refine kDr ?_ | refine kAl ?_ _)); refine blk_put (cs := #[.int .i64 x259000_1, .string (rdOf ByteArray.empty t255 1), .string t273, .int .i64 t277, .int .i64 0]) ?_ 4 _ rfl; (with_reducible repeat (first | refine kDN ?_ _ | refine kDr ?_ | refine kAl ?_ _)); refine blk_put (cs := #[.int .i64 x259000_1, .string (rdOf ByteArray.empty t255 1), .string t273, .int .i64 0, .int .i64 0]) ?_ 3 _ rfl; (with_reducible repeat (first | refine kDN ?_ _ | refine kDr ?_ | refine kAl ?_ _)); refine blk_put (cs := #[.int .i64 x259000_1, .string (rdOf ByteArray.empty t255 1), .string (⟨#[]⟩ : ByteArray), .int .i64 0, .int .i64 0]) ?_ 2 _ rfl; (with_reducible repeat (first | refine kDN ?_ _ | refine kDr ?_ | refine kAl ?_ _)); refine blk_put (cs := #[.int .i64 x259000_1, .string (⟨#[]⟩ : ByteArray), .string (⟨#[]⟩ : ByteArray), .int .i64 0, .int .i64 0]) ?_ 1 _ rfl; (with_reducible repeat (first | refine kDN ?_ _ | refine kDr ?_ | refine kAl ?_ _)); refine blk_put (cs := #[.int .i64 0, .string (⟨#[]⟩ : ByteArray), .string (⟨#[]⟩ : ByteArray), .int .i64 0, .int .i64 0]) ?_ 0 _ rfl; (with_reducible repeat (first | refine kDN ?_ _ | refine kDr ?_ | refine kAl ?_ _)); exact BK254.out) Tryz.underlying50 rfl (by kernel_rfl)) rfl ?_
        exact ⟨eX, bX2 GE254.out GE258.out⟩
       rw [if_pos c65] at H; have c65b0 : decide (0 ≤ t274) = true := decide_eq_true c65; clear c65
       simp only [Option.some.injEq, Prod.mk.injEq] at H
       obtain ⟨rfl, rfl, rfl, rfl, rfl, rfl⟩ := H
       obtain ⟨Ao66, co66, eo66⟩ := Kd.R_slice HO_6.out
       subst eo66
       have p272 : 0 ≤ (2 : Int) := (by omega)
       have q272 : 2 < (t255.length : Int) := oA
       obtain ⟨ad272, e272, hx272_0⟩ := Kd.at_string (Kd.R_reads' HO_6.out).2.2 2 p272 q272
       cases e272
       (try simp only [show (2 : Int).toNat = 2 from rfl, Nat.reduceMul, Nat.reduceEqDiff, Go.Addr.add, ↓reduceIte] at hx272_0)
       have qi272 : (2 < t255.length) = True := eq_true (by omega)
       (try rw [show ((2 : Int)).toNat = 2 from rfl] at hx272_0)
       replace p272 := eq_true p272; replace q272 := eq_true q272
       go_wp2_with (first | ((with_reducible refine gate_callee (f := 127) rfl ?_); refine gO 70 Tryz.func127 #[.string (rdOf ByteArray.empty t255 2)] ?_; (with_reducible refine (r2_Parse.calls kj22 (rdOf ByteArray.empty t255 2) t273 t274 _ A64.out).mono ?_); rintro e w67 ⟨rfl, hb⟩; refine ⟨_, rfl, ?_⟩; replace HO_6 := aK (Kd.R_below (rX HO_6.out) hb); replace BK254 := aK (kBe (g := gb254) (o := .cells #[.int .i64 0, .string (⟨#[]⟩ : ByteArray), .string (⟨#[]⟩ : ByteArray), .int .i64 0, .int .i64 0] 50 (0, 0)) (kX BK254.out) hb); replace BK258 := aK (kBe (g := gb258) (o := .cells #[.int .i64 x259000_1, .string (⟨#[]⟩ : ByteArray), .string (⟨#[]⟩ : ByteArray), .int .i64 0, .int .i64 a1] 50 (0, 0)) (kX BK258.out) hb); replace HB := aK (bSp (bX2 GE254.out GE258.out) hb); clear hb; have hnb68 := NB258_254.out; have hnc68 := NB254_258.out; have hcz69_0 : w67.cell? ⟨gb258, 0, none⟩ = some (.int .i64 x259000_1) := (kCe BK258.out 0).trans rfl; have hcz69_1 : w67.cell? ⟨gb258, 1, none⟩ = some (.string (⟨#[]⟩ : ByteArray)) := (kCe BK258.out 1).trans rfl; have hcz69_2 : w67.cell? ⟨gb258, 2, none⟩ = some (.string (⟨#[]⟩ : ByteArray)) := (kCe BK258.out 2).trans rfl; have hcz69_3 : w67.cell? ⟨gb258, 3, none⟩ = some (.int .i64 0) := (kCe BK258.out 3).trans rfl; have hcz69_4 : w67.cell? ⟨gb258, 4, none⟩ = some (.int .i64 a1) := (kCe BK258.out 4).trans rfl; have hfz69_0 := bFz BK258.out 0; have hfz69_1 := bFz BK258.out 1; have hfz69_2 := bFz BK258.out 2; have hfz69_3 := bFz BK258.out 3; have hfz69_4 := bFz BK258.out 4; have hcz70_0 : w67.cell? ⟨gb254, 0, none⟩ = some (.int .i64 0) := (kCe BK254.out 0).trans rfl; have hcz70_1 : w67.cell? ⟨gb254, 1, none⟩ = some (.string (⟨#[]⟩ : ByteArray)) := (kCe BK254.out 1).trans rfl; have hcz70_2 : w67.cell? ⟨gb254, 2, none⟩ = some (.string (⟨#[]⟩ : ByteArray)) := (kCe BK254.out 2).trans rfl; have hcz70_3 : w67.cell? ⟨gb254, 3, none⟩ = some (.int .i64 0) := (kCe BK254.out 3).trans rfl; have hcz70_4 : w67.cell? ⟨gb254, 4, none⟩ = some (.int .i64 0) := (kCe BK254.out 4).trans rfl; have hfz70_0 := bFz BK254.out 0; have hfz70_1 := bFz BK254.out 1; have hfz70_2 := bFz BK254.out 2; have hfz70_3 := bFz BK254.out 3; have hfz70_4 := bFz BK254.out 4))
       refine bodyPost_ret (results_ct rfl _ _ gb254 50 #[.int .i64 x259000_1, .string (⟨#[]⟩ : ByteArray), .string (⟨#[]⟩ : ByteArray), .int .i64 0, .int .i64 a1] (0, 0) _ rfl (by (with_reducible repeat (first | refine kDN ?_ _ | refine kDr ?_ | refine kAl ?_ _)); refine blk_put (cs := #[.int .i64 x259000_1, .string (⟨#[]⟩ : ByteArray), .string (⟨#[]⟩ : ByteArray), .int .i64 0, .int .i64 0]) ?_ 4 _ rfl; (with_reducible repeat (first | refine kDN ?_ _ | refine kDr ?_ | refine kAl ?_ _)); refine blk_put (cs := #[.int .i64 x259000_1, .string (⟨#[]⟩ : ByteArray), .string (⟨#[]⟩ : ByteArray), .int .i64 0, .int .i64 0]) ?_ 3 _ rfl; (with_reducible repeat (first | refine kDN ?_ _ | refine kDr ?_ | refine kAl ?_ _)); refine blk_put (cs := #[.int .i64 x259000_1, .string (⟨#[]⟩ : ByteArray), .string (⟨#[]⟩ : ByteArray), .int .i64 0, .int .i64 0]) ?_ 2 _ rfl; (with_reducible repeat (first | refine kDN ?_ _ | refine kDr ?_ | refine kAl ?_ _)); refine blk_put (cs := #[.int .i64 x259000_1, .string (⟨#[]⟩ : ByteArray), .string (⟨#[]⟩ : ByteArray), .int .i64 0, .int .i64 0]) ?_ 1 _ rfl; (with_reducible repeat (first | refine kDN ?_ _ | refine kDr ?_ | refine kAl ?_ _)); refine blk_put (cs := #[.int .i64 0, .string (⟨#[]⟩ : ByteArray), .string (⟨#[]⟩ : ByteArray), .int .i64 0, .int .i64 0]) ?_ 0 _ rfl; (with_reducible repeat (first | refine kDN ?_ _ | refine kDr ?_ | refine kAl ?_ _)); exact BK254.out) Tryz.underlying50 rfl (by kernel_rfl)) rfl ?_
       exact ⟨eX, bX2 GE254.out GE258.out⟩
      subst c59
      have H1 : (some (x259000_1, (⟨#[]⟩ : ByteArray), (⟨#[]⟩ : ByteArray), 0, a1, false)) = some (r1, r2, r3, r4, r5, r6) := by rw [if_pos rfl] at H; exact H
      clear H
      have H := H1
      clear H1
      simp only [Option.some.injEq, Prod.mk.injEq] at H
      obtain ⟨rfl, rfl, rfl, rfl, rfl, rfl⟩ := H
      have hnb60 := NB258_254.out; have hnc60 := NB254_258.out; obtain ⟨hcz61_0, hcz61_1, hcz61_2, hcz61_3, hcz61_4⟩ := kC5 BK258.out; obtain ⟨hfz61_0, hfz61_1, hfz61_2, hfz61_3, hfz61_4⟩ := bF5 BK258.out; obtain ⟨hcz62_0, hcz62_1, hcz62_2, hcz62_3, hcz62_4⟩ := kC5 BK254.out; obtain ⟨hfz62_0, hfz62_1, hfz62_2, hfz62_3, hfz62_4⟩ := bF5 BK254.out
      go_wp2
      refine bodyPost_ret (results_ct rfl _ _ gb254 50 #[.int .i64 x259000_1, .string (⟨#[]⟩ : ByteArray), .string (⟨#[]⟩ : ByteArray), .int .i64 0, .int .i64 a1] (0, 0) _ rfl (by (with_reducible repeat (first | refine kDN ?_ _ | refine kDr ?_ | refine kAl ?_ _)); refine blk_put (cs := #[.int .i64 x259000_1, .string (⟨#[]⟩ : ByteArray), .string (⟨#[]⟩ : ByteArray), .int .i64 0, .int .i64 0]) ?_ 4 _ rfl; (with_reducible repeat (first | refine kDN ?_ _ | refine kDr ?_ | refine kAl ?_ _)); refine blk_put (cs := #[.int .i64 x259000_1, .string (⟨#[]⟩ : ByteArray), .string (⟨#[]⟩ : ByteArray), .int .i64 0, .int .i64 0]) ?_ 3 _ rfl; (with_reducible repeat (first | refine kDN ?_ _ | refine kDr ?_ | refine kAl ?_ _)); refine blk_put (cs := #[.int .i64 x259000_1, .string (⟨#[]⟩ : ByteArray), .string (⟨#[]⟩ : ByteArray), .int .i64 0, .int .i64 0]) ?_ 2 _ rfl; (with_reducible repeat (first | refine kDN ?_ _ | refine kDr ?_ | refine kAl ?_ _)); refine blk_put (cs := #[.int .i64 x259000_1, .string (⟨#[]⟩ : ByteArray), .string (⟨#[]⟩ : ByteArray), .int .i64 0, .int .i64 0]) ?_ 1 _ rfl; (with_reducible repeat (first | refine kDN ?_ _ | refine kDr ?_ | refine kAl ?_ _)); refine blk_put (cs := #[.int .i64 0, .string (⟨#[]⟩ : ByteArray), .string (⟨#[]⟩ : ByteArray), .int .i64 0, .int .i64 0]) ?_ 0 _ rfl; (with_reducible repeat (first | refine kDN ?_ _ | refine kDr ?_ | refine kAl ?_ _)); exact BK254.out) Tryz.underlying50 rfl (by kernel_rfl)) rfl ?_
      exact ⟨eX, bX2 GE254.out GE258.out⟩
   rw [if_pos c11] at H; have c11b0 : decide (x9_1 < (t259.length : Int)) = true := decide_eq_true c11; clear c11
   by_cases c12 : 0 ≤ x9_1
   rotate_left
   ·
    rw [if_neg c12] at H
    exact absurd H (by simp)
   rw [if_pos c12] at H; have c12b0 : decide (0 ≤ x9_1) = true := decide_eq_true c12; clear c12
   by_cases c13 : 0 < (t255.length : Int)
   rotate_left
   ·
    rw [if_neg c13] at H
    exact absurd H (by simp)
   rw [if_pos c13] at H; have c13b0 : decide (0 < (t255.length : Int)) = true := decide_eq_true c13
   have c13b1 : decide (0 < t255.length) = true := decide_eq_true (by omega)
   clear c13
   by_cases c14 : (rdOf ByteArray.empty t259 x9_1).toList = (rdOf ByteArray.empty t255 0).toList
   rotate_left
   ·
    rw [if_neg c14] at H; obtain ⟨c14b0, c14b1⟩ := bN c14; have H' := aK H; clear H
    obtain ⟨Ao20, co20, eo20⟩ := Kd.R_slice HO_8.out
    subst eo20
    try go_wp2
    have n0_ := aK (Kd.R_drew HO_6.out)
    have n1_ := aK (Kd.R_drew HO_8.out)
    have n2_ := aK (kDr BK254.out)
    have n3_ := aK (kDr BK258.out)
    have n4_ := aK (bD1 HB.out)
    clear HO_6; clear HO_8; clear BK254; clear BK258; clear HB
    have HO_6 := n0_
    have HO_8 := n1_
    have BK254 := n2_
    have BK258 := n3_
    have HB := n4_
    clear n0_ n1_ n2_ n3_ n4_; have p262 : 0 ≤ (x9_1 : Int) := oA; have q262 : x9_1 < (t259.length : Int) := oA
    obtain ⟨ad262, e262, hx262_0⟩ := Kd.at_string (Kd.R_reads' HO_8.out).2.2 x9_1 p262 q262
    cases e262
    replace p262 := eq_true p262; replace q262 := eq_true q262
    obtain ⟨Ao22, co22, eo22⟩ := Kd.R_slice HO_6.out
    (first | subst eo22 | (injection eo22 with f1_ f2_ f3_; have f4_ := f1_.symm; have f5_ := f3_.symm; clear f1_ f2_ f3_; subst f4_; subst f5_))
    have p263 : 0 ≤ (0 : Int) := (by omega)
    have q263 : 0 < (t255.length : Int) := oA
    obtain ⟨ad263, e263, hx263_0⟩ := Kd.at_string (Kd.R_reads' HO_6.out).2.2 0 p263 q263
    cases e263
    have qi263 : (0 < t255.length) = True := eq_true (by omega)
    (try rw [show ((0 : Int)).toNat = 0 from rfl] at hx263_0)
    (try rw [Addr.add_zero'] at hx263_0)
    replace p263 := eq_true p263; replace q263 := eq_true q263
    refine start_ (n := 8) (S := fun w' => w'.cell? (ad262.add (x9_1).toNat) = some (.string (rdOf ByteArray.empty t259 x9_1)) ∧ w'.cell? ad263 = some (.string (rdOf ByteArray.empty t255 0))) (ds := []) (bl 8 0) (by kernel_rfl) rfl (by kernel_rfl) ⟨hx262_0, hx263_0⟩ (fun hHeld => ?_); refine with_tabW r8_rule.tab7 r8_rule.bits7 (fun HT_ HW_ => ?_)
    generalize wr.drew = w21 at HO_6 HO_8 BK254 BK258 HB hx262_0 hx263_0 hHeld ⊢
    refine pV 0 23 (bl 8 1) HT_.out ?_
    refine pV 1 24 (bl 8 3) HT_.out ?_
    refine pV 2 25 (bl 8 7) HT_.out ?_
    refine pV 4 27 (bl 8 23) HT_.out ?_
    refine pV 5 28 (bl 8 55) HT_.out ?_
    refine tV 3 26 (bl 8 63) HT_.out HW_.out hHeld ?_ (hv := by rintro w' ⟨s0, s1⟩; go_simp; with_reducible rfl)
    refine tV 6 29 (bl 8 127) HT_.out HW_.out hHeld ?_ (hv := by rintro w' ⟨s0, s1⟩; go_simp; with_reducible rfl)
    refine pV 7 30 (bl 8 255) HT_.out ?_
    refine done_ (done_of HT_.out (by kernel_rfl)) ?_
    try go_wp2
    go_roundg k1
    case measure => have := HK1.out; omega
    case rel => exact ⟨(wrap64 (x9_1 + 1)), (x259000_1), sX, H', ⟨by have := HK1.out; omega⟩, ⟨rX HO_6.out⟩, ⟨rX HO_8.out⟩, ⟨kX BK254.out⟩, ⟨kX BK258.out⟩, ⟨bX2 GE254.out GE258.out⟩⟩
   rw [if_pos c14] at H; obtain ⟨c14b0, c14b1⟩ := bY c14; clear c14; have H' := aK H; clear H
   obtain ⟨Ao15, co15, eo15⟩ := Kd.R_slice HO_8.out
   subst eo15
   try go_wp2
   have n0_ := aK (Kd.R_drew HO_6.out)
   have n1_ := aK (Kd.R_drew HO_8.out)
   have n2_ := aK (kDr BK254.out)
   have n3_ := aK (kDr BK258.out)
   have n4_ := aK (bD1 HB.out)
   clear HO_6; clear HO_8; clear BK254; clear BK258; clear HB
   have HO_6 := n0_
   have HO_8 := n1_
   have BK254 := n2_
   have BK258 := n3_
   have HB := n4_
   clear n0_ n1_ n2_ n3_ n4_; have p262 : 0 ≤ (x9_1 : Int) := oA; have q262 : x9_1 < (t259.length : Int) := oA
   obtain ⟨ad262, e262, hx262_0⟩ := Kd.at_string (Kd.R_reads' HO_8.out).2.2 x9_1 p262 q262
   cases e262
   replace p262 := eq_true p262; replace q262 := eq_true q262
   obtain ⟨Ao17, co17, eo17⟩ := Kd.R_slice HO_6.out
   (first | subst eo17 | (injection eo17 with f1_ f2_ f3_; have f4_ := f1_.symm; have f5_ := f3_.symm; clear f1_ f2_ f3_; subst f4_; subst f5_))
   have p263 : 0 ≤ (0 : Int) := (by omega)
   have q263 : 0 < (t255.length : Int) := oA
   obtain ⟨ad263, e263, hx263_0⟩ := Kd.at_string (Kd.R_reads' HO_6.out).2.2 0 p263 q263
   cases e263
   have qi263 : (0 < t255.length) = True := eq_true (by omega)
   (try rw [show ((0 : Int)).toNat = 0 from rfl] at hx263_0)
   (try rw [Addr.add_zero'] at hx263_0)
   replace p263 := eq_true p263; replace q263 := eq_true q263
   refine start_ (n := 8) (S := fun w' => w'.cell? (ad262.add (x9_1).toNat) = some (.string (rdOf ByteArray.empty t259 x9_1)) ∧ w'.cell? ad263 = some (.string (rdOf ByteArray.empty t255 0))) (ds := []) (bl 8 0) (by kernel_rfl) rfl (by kernel_rfl) ⟨hx262_0, hx263_0⟩ (fun hHeld => ?_); refine with_tabW r8_rule.tab7 r8_rule.bits7 (fun HT_ HW_ => ?_)
   generalize wr.drew = w16 at HO_6 HO_8 BK254 BK258 HB hx262_0 hx263_0 hHeld ⊢
   refine pV 0 23 (bl 8 1) HT_.out ?_
   refine pV 1 24 (bl 8 3) HT_.out ?_
   refine pV 2 25 (bl 8 7) HT_.out ?_
   refine pV 4 27 (bl 8 23) HT_.out ?_
   refine pV 5 28 (bl 8 55) HT_.out ?_
   refine tV 3 26 (bl 8 63) HT_.out HW_.out hHeld ?_ (hv := by rintro w' ⟨s0, s1⟩; go_simp; with_reducible rfl)
   refine tV 6 29 (bl 8 127) HT_.out HW_.out hHeld ?_ (hv := by rintro w' ⟨s0, s1⟩; go_simp; with_reducible rfl)
   refine pV 7 30 (bl 8 255) HT_.out ?_
   refine done_ (done_of HT_.out (by kernel_rfl)) ?_
   have hnb18 := NB258_254.out; have hnc18 := NB254_258.out; obtain ⟨hcz19_0, hcz19_1, hcz19_2, hcz19_3, hcz19_4⟩ := kC5 BK258.out; obtain ⟨hfz19_0, hfz19_1, hfz19_2, hfz19_3, hfz19_4⟩ := bF5 BK258.out
   try go_wp2
   go_roundg k1
   case measure => have := HK1.out; omega
   case rel => exact ⟨(wrap64 (x9_1 + 1)), (x9_1), sX, H', ⟨by have := HK1.out; omega⟩, ⟨by (with_reducible repeat (first | apply Kd.R_alloc | apply Kd.R_drewN | apply Kd.R_drew)); exact Kd.R_mono (Kd.R_far (p := ⟨gb258, 0, none⟩) (Kd.R_types HO_6.out BK258.out (by decide)) (fun _ hk => hk.2) (.int .i64 x9_1)) (fun _ hk => hk.1)⟩, ⟨by (with_reducible repeat (first | apply Kd.R_alloc | apply Kd.R_drewN | apply Kd.R_drew)); exact Kd.R_mono (Kd.R_far (p := ⟨gb258, 0, none⟩) (Kd.R_types HO_8.out BK258.out (by decide)) (fun _ hk => hk.2) (.int .i64 x9_1)) (fun _ hk => hk.1)⟩, ⟨by (with_reducible repeat (first | refine kDN ?_ _ | refine kDr ?_ | refine kAl ?_ _)); refine blk_far ?_ NB254_258.out _; (with_reducible repeat (first | refine kDN ?_ _ | refine kDr ?_ | refine kAl ?_ _)); exact BK254.out⟩, ⟨by (with_reducible repeat (first | refine kDN ?_ _ | refine kDr ?_ | refine kAl ?_ _)); refine blk_put (cs := #[.int .i64 x259000_1, .string (⟨#[]⟩ : ByteArray), .string (⟨#[]⟩ : ByteArray), .int .i64 0, .int .i64 a1]) ?_ 0 _ rfl; (with_reducible repeat (first | refine kDN ?_ _ | refine kDr ?_ | refine kAl ?_ _)); exact BK258.out⟩, ⟨bX2 GE254.out GE258.out⟩⟩
end Go.Proofs.YtbpbniemjjhecaaGreat.PChk
