import Derived.Test.YtbpbniemjjhecaaGreatZPPar0
namespace Go.Proofs.YtbpbniemjjhecaaGreat.PChk
open Go.RowKit Go.Proofs.YtbpbniemjjhecaaGreat.G Go.Proofs.YtbpbniemjjhecaaGreat.PChk Go.Proofs.YtbpbniemjjhecaaGreatW.PrintWords Go.Proofs.YtbpbniemjjhecaaGreatW.PrintLast Go.Proofs.YtbpbniemjjhecaaGreatW.PrintMore
attribute [local go_sem] max2_int min2_int max_two min_two max_three min_three max_four min_four
set_option linter.unusedVariables false
set_option linter.unusedSimpArgs false
set_option maxHeartbeats 8000000
set_option maxRecDepth 100000
def part_spot_left.f (a0_0 : ByteArray) (a0_1 : Int) (a0_2 : Int) : Option (Int) := some (mn a0_2 (wrap64 ((a0_0.size : Int) - a0_1)))
theorem part_spot_left.calls (a0_0 : ByteArray) (a0_1 : Int) (a0_2 : Int) (r : Int) (w : World) (h : part_spot_left.f a0_0 a0_1 a0_2 = some r) :
  Calls Tryz.prog 149 #[.agg #[.string a0_0, .int .i64 a0_1, .int .i64 a0_2]] w fun e w' => e = .returned (.int .i64 r) ∧ Below w.heap.size w w' := by
 have hu165 := Tryz.underlying165
 have HB := aK (Below.refl w.heap.size w)
 have H : (some (mn a0_2 (wrap64 ((a0_0.size : Int) - a0_1)))) = some r := h
 clear h
 obtain ⟨ji2, hji2⟩ : ∃ j_ : Int, (mn a0_2 (wrap64 ((a0_0.size : Int) - a0_1))) = j_ := ⟨_, rfl⟩
 replace H : (some ji2) = some r := by first | (rw [hji2] at H; exact H) | (simp only [hji2] at H ⊢; exact H)
 have hji2_ : (if (wrap64 ((a0_0.size : Int) - a0_1)) < a0_2 then (wrap64 ((a0_0.size : Int) - a0_1)) else a0_2) = ji2 := hji2
 obtain rfl := oI H
 go_enter Tryz.func149, Tryz.ntmps149
 go_wp2_with (first | ((with_reducible refine gate_dst (N := 1) rfl ?_); refine box_event ?hg (N := 1) ?hd (cs := #[.string a0_0, .int .i64 a0_1, .int .i64 a0_2]) (t := 165) ?hr ?_; (case hd => rfl); (case hg => rfl); (case hr => first | (go_simp; done) | (go_simp; rfl)); intro gb101 hg w3 hbox hb; have n0_ := aK (bSp bX hb); have n1_ := aK (hbox); have n2_ := aK ((by rw [hg]; exact (bSz bX) : w.heap.size ≤ gb101)); have n3_ := aK ((by rw [hg]; exact (bSz bX) : w.heap.size ≤ gb101)); clear HB; have HB := n0_; have BK101 := n1_; have GW101 := n2_; have GE101 := n3_; clear n0_ n1_ n2_ n3_; clear hb hbox hg; have hcz4_0 : w3.cell? ⟨gb101, 0, none⟩ = some (.string a0_0) := (kCe BK101.out 0).trans rfl; have hcz4_1 : w3.cell? ⟨gb101, 1, none⟩ = some (.int .i64 a0_1) := (kCe BK101.out 1).trans rfl; have hcz4_2 : w3.cell? ⟨gb101, 2, none⟩ = some (.int .i64 a0_2) := (kCe BK101.out 2).trans rfl))
 go_ret
 exact ⟨by first | rfl | (simp [eWn, eWs] <;> rfl) | (simp only [← hji2]; first | rfl | (simp [eWn, eWs] <;> rfl)) | (simp [*, eWn, eWs] <;> rfl), bX1 GE101.out⟩
def part_spot_may.f (a0_0 : ByteArray) (a0_1 : Int) (a0_2 : Int) (a1 : Int) (a2 : Int) : Option (Bool) := if a1 = 1 then (some true) else (if a1 = 2 then (some (a0_1 == 0)) else (if a1 = 3 then (some (decide (a0_1 > 0))) else (if a1 = 4 then (if a0_1 > 0 then (some ((wrap64 (a0_1 + a2)) == (a0_0.size : Int))) else (some false)) else (some false))))
theorem part_spot_may.calls (a0_0 : ByteArray) (a0_1 : Int) (a0_2 : Int) (a1 : Int) (a2 : Int) (r : Bool) (w : World) (h : part_spot_may.f a0_0 a0_1 a0_2 a1 a2 = some r) :
  Calls Tryz.prog 150 #[.agg #[.string a0_0, .int .i64 a0_1, .int .i64 a0_2], .int .i64 a1, .int .i64 a2] w fun e w' => e = .returned (.bool r) ∧ Below w.heap.size w w' := by
 have hu165 := Tryz.underlying165
 have HB := aK (Below.refl w.heap.size w)
 have H : (if a1 = 1 then (some true) else (if a1 = 2 then (some (a0_1 == 0)) else (if a1 = 3 then (some (decide (a0_1 > 0))) else (if a1 = 4 then (if a0_1 > 0 then (some ((wrap64 (a0_1 + a2)) == (a0_0.size : Int))) else (some false)) else (some false))))) = some r := h
 clear h
 by_cases c4 : a1 = 1
 rotate_left
 ·
  rw [if_neg c4] at H; obtain ⟨c4b0, c4b1⟩ := bN c4
  by_cases c6 : a1 = 2
  rotate_left
  ·
   rw [if_neg c6] at H; obtain ⟨c6b0, c6b1⟩ := bN c6
   by_cases c9 : a1 = 3
   rotate_left
   ·
    rw [if_neg c9] at H; obtain ⟨c9b0, c9b1⟩ := bN c9
    by_cases c12 : a1 = 4
    rotate_left
    ·
     rw [if_neg c12] at H; obtain ⟨c12b0, c12b1⟩ := bN c12; obtain rfl := oI H
     go_enter Tryz.func150, Tryz.ntmps150
     go_wp2_with (first | ((with_reducible refine gate_dst (N := 3) rfl ?_); (try (refine gate_guard (by rfl) ?_; dsimp only)); refine box_event ?hg (N := 3) ?hd (cs := #[.string a0_0, .int .i64 a0_1, .int .i64 a0_2]) (t := 165) ?hr ?_; (case hd => rfl); (case hg => rfl); (case hr => first | (go_simp; done) | (go_simp; rfl)); intro gb102 hg w18 hbox hb; have n0_ := aK (bSp bX hb); have n1_ := aK (hbox); have n2_ := aK ((by rw [hg]; exact (bSz bX) : w.heap.size ≤ gb102)); have n3_ := aK ((by rw [hg]; exact (bSz bX) : w.heap.size ≤ gb102)); clear HB; have HB := n0_; have BK102 := n1_; have GW102 := n2_; have GE102 := n3_; clear n0_ n1_ n2_ n3_; clear hb hbox hg))
     go_ret
     exact ⟨eX, bX1 GE102.out⟩
    rw [if_pos c12] at H; obtain ⟨c12b0, c12b1⟩ := bY c12; clear c12
    by_cases c13 : a0_1 > 0
    rotate_left
    ·
     rw [if_neg c13] at H; have c13b0 : decide (0 < a0_1) = false := decide_eq_false c13; clear c13; obtain rfl := oI H
     go_enter Tryz.func150, Tryz.ntmps150
     go_wp2_with (first | ((with_reducible refine gate_dst (N := 3) rfl ?_); (try (refine gate_guard (by rfl) ?_; dsimp only)); refine box_event ?hg (N := 3) ?hd (cs := #[.string a0_0, .int .i64 a0_1, .int .i64 a0_2]) (t := 165) ?hr ?_; (case hd => rfl); (case hg => rfl); (case hr => first | (go_simp; done) | (go_simp; rfl)); intro gb102 hg w16 hbox hb; have n0_ := aK (bSp bX hb); have n1_ := aK (hbox); have n2_ := aK ((by rw [hg]; exact (bSz bX) : w.heap.size ≤ gb102)); have n3_ := aK ((by rw [hg]; exact (bSz bX) : w.heap.size ≤ gb102)); clear HB; have HB := n0_; have BK102 := n1_; have GW102 := n2_; have GE102 := n3_; clear n0_ n1_ n2_ n3_; clear hb hbox hg; have hcz17_0 : w16.cell? ⟨gb102, 0, none⟩ = some (.string a0_0) := (kCe BK102.out 0).trans rfl; have hcz17_1 : w16.cell? ⟨gb102, 1, none⟩ = some (.int .i64 a0_1) := (kCe BK102.out 1).trans rfl; have hcz17_2 : w16.cell? ⟨gb102, 2, none⟩ = some (.int .i64 a0_2) := (kCe BK102.out 2).trans rfl))
     go_ret
     exact ⟨eX, bX1 GE102.out⟩
    rw [if_pos c13] at H; have c13b0 : decide (0 < a0_1) = true := decide_eq_true c13; clear c13; obtain rfl := oI H
    go_enter Tryz.func150, Tryz.ntmps150
    go_wp2_with (first | ((with_reducible refine gate_dst (N := 3) rfl ?_); (try (refine gate_guard (by rfl) ?_; dsimp only)); refine box_event ?hg (N := 3) ?hd (cs := #[.string a0_0, .int .i64 a0_1, .int .i64 a0_2]) (t := 165) ?hr ?_; (case hd => rfl); (case hg => rfl); (case hr => first | (go_simp; done) | (go_simp; rfl)); intro gb102 hg w14 hbox hb; have n0_ := aK (bSp bX hb); have n1_ := aK (hbox); have n2_ := aK ((by rw [hg]; exact (bSz bX) : w.heap.size ≤ gb102)); have n3_ := aK ((by rw [hg]; exact (bSz bX) : w.heap.size ≤ gb102)); clear HB; have HB := n0_; have BK102 := n1_; have GW102 := n2_; have GE102 := n3_; clear n0_ n1_ n2_ n3_; clear hb hbox hg; have hcz15_0 : w14.cell? ⟨gb102, 0, none⟩ = some (.string a0_0) := (kCe BK102.out 0).trans rfl; have hcz15_1 : w14.cell? ⟨gb102, 1, none⟩ = some (.int .i64 a0_1) := (kCe BK102.out 1).trans rfl; have hcz15_2 : w14.cell? ⟨gb102, 2, none⟩ = some (.int .i64 a0_2) := (kCe BK102.out 2).trans rfl))
    go_ret
    exact ⟨eX, bX1 GE102.out⟩
   rw [if_pos c9] at H; obtain ⟨c9b0, c9b1⟩ := bY c9; clear c9; obtain rfl := oI H
   go_enter Tryz.func150, Tryz.ntmps150
   go_wp2_with (first | ((with_reducible refine gate_dst (N := 3) rfl ?_); (try (refine gate_guard (by rfl) ?_; dsimp only)); refine box_event ?hg (N := 3) ?hd (cs := #[.string a0_0, .int .i64 a0_1, .int .i64 a0_2]) (t := 165) ?hr ?_; (case hd => rfl); (case hg => rfl); (case hr => first | (go_simp; done) | (go_simp; rfl)); intro gb102 hg w10 hbox hb; have n0_ := aK (bSp bX hb); have n1_ := aK (hbox); have n2_ := aK ((by rw [hg]; exact (bSz bX) : w.heap.size ≤ gb102)); have n3_ := aK ((by rw [hg]; exact (bSz bX) : w.heap.size ≤ gb102)); clear HB; have HB := n0_; have BK102 := n1_; have GW102 := n2_; have GE102 := n3_; clear n0_ n1_ n2_ n3_; clear hb hbox hg; have hcz11_0 : w10.cell? ⟨gb102, 0, none⟩ = some (.string a0_0) := (kCe BK102.out 0).trans rfl; have hcz11_1 : w10.cell? ⟨gb102, 1, none⟩ = some (.int .i64 a0_1) := (kCe BK102.out 1).trans rfl; have hcz11_2 : w10.cell? ⟨gb102, 2, none⟩ = some (.int .i64 a0_2) := (kCe BK102.out 2).trans rfl))
   go_ret
   exact ⟨eX, bX1 GE102.out⟩
  rw [if_pos c6] at H; obtain ⟨c6b0, c6b1⟩ := bY c6; clear c6; obtain rfl := oI H
  go_enter Tryz.func150, Tryz.ntmps150
  go_wp2_with (first | ((with_reducible refine gate_dst (N := 3) rfl ?_); (try (refine gate_guard (by rfl) ?_; dsimp only)); refine box_event ?hg (N := 3) ?hd (cs := #[.string a0_0, .int .i64 a0_1, .int .i64 a0_2]) (t := 165) ?hr ?_; (case hd => rfl); (case hg => rfl); (case hr => first | (go_simp; done) | (go_simp; rfl)); intro gb102 hg w7 hbox hb; have n0_ := aK (bSp bX hb); have n1_ := aK (hbox); have n2_ := aK ((by rw [hg]; exact (bSz bX) : w.heap.size ≤ gb102)); have n3_ := aK ((by rw [hg]; exact (bSz bX) : w.heap.size ≤ gb102)); clear HB; have HB := n0_; have BK102 := n1_; have GW102 := n2_; have GE102 := n3_; clear n0_ n1_ n2_ n3_; clear hb hbox hg; have hcz8_0 : w7.cell? ⟨gb102, 0, none⟩ = some (.string a0_0) := (kCe BK102.out 0).trans rfl; have hcz8_1 : w7.cell? ⟨gb102, 1, none⟩ = some (.int .i64 a0_1) := (kCe BK102.out 1).trans rfl; have hcz8_2 : w7.cell? ⟨gb102, 2, none⟩ = some (.int .i64 a0_2) := (kCe BK102.out 2).trans rfl))
  go_ret
  exact ⟨eX, bX1 GE102.out⟩
 rw [if_pos c4] at H
 obtain ⟨c4b0, c4b1⟩ := bY c4
 clear c4
 obtain rfl := oI H
 go_enter Tryz.func150, Tryz.ntmps150
 go_wp2_with (first | ((with_reducible refine gate_dst (N := 3) rfl ?_); (try (refine gate_guard (by rfl) ?_; dsimp only)); refine box_event ?hg (N := 3) ?hd (cs := #[.string a0_0, .int .i64 a0_1, .int .i64 a0_2]) (t := 165) ?hr ?_; (case hd => rfl); (case hg => rfl); (case hr => first | (go_simp; done) | (go_simp; rfl)); intro gb102 hg w5 hbox hb; have n0_ := aK (bSp bX hb); have n1_ := aK (hbox); have n2_ := aK ((by rw [hg]; exact (bSz bX) : w.heap.size ≤ gb102)); have n3_ := aK ((by rw [hg]; exact (bSz bX) : w.heap.size ≤ gb102)); clear HB; have HB := n0_; have BK102 := n1_; have GW102 := n2_; have GE102 := n3_; clear n0_ n1_ n2_ n3_; clear hb hbox hg))
 go_ret
 exact ⟨eX, bX1 GE102.out⟩
def part_spot_is.f (a0_0 : ByteArray) (a0_1 : Int) (a0_2 : Int) : Option (Bool) := (chars_Case.f a0_0).bind fun t104 => (if t104 = 1 then (if a0_1 ≥ 0 then (some (decide (a0_1 < (a0_0.size : Int)))) else (some false)) else (some false))
theorem part_spot_is.calls (a0_0 : ByteArray) (a0_1 : Int) (a0_2 : Int) (r : Bool) (w : World) (h : part_spot_is.f a0_0 a0_1 a0_2 = some r) :
  Calls Tryz.prog 139 #[.agg #[.string a0_0, .int .i64 a0_1, .int .i64 a0_2]] w fun e w' => e = .returned (.bool r) ∧ Below w.heap.size w w' := by
 have hu165 := Tryz.underlying165
 have HB := aK (Below.refl w.heap.size w)
 have H : ((chars_Case.f a0_0).bind fun t104 => (if t104 = 1 then (if a0_1 ≥ 0 then (some (decide (a0_1 < (a0_0.size : Int)))) else (some false)) else (some false))) = some r := h
 clear h
 obtain ⟨t104, A2, H⟩ := oC H
 try dsimp only at H
 by_cases c3 : t104 = 1
 rotate_left
 ·
  rw [if_neg c3] at H; obtain ⟨c3b0, c3b1⟩ := bN c3; obtain rfl := oI H
  go_enter Tryz.func139, Tryz.ntmps139
  go_wp2_with (first | ((with_reducible refine gate_dst (N := 1) rfl ?_); (try (refine gate_guard (by rfl) ?_; dsimp only)); refine box_event ?hg (N := 1) ?hd (cs := #[.string a0_0, .int .i64 a0_1, .int .i64 a0_2]) (t := 165) ?hr ?_; (case hd => rfl); (case hg => rfl); (case hr => first | (go_simp; done) | (go_simp; rfl)); intro gb103 hg w13 hbox hb; have n0_ := aK (bSp bX hb); have n1_ := aK (hbox); have n2_ := aK ((by rw [hg]; exact (bSz bX) : w.heap.size ≤ gb103)); have n3_ := aK ((by rw [hg]; exact (bSz bX) : w.heap.size ≤ gb103)); clear HB; have HB := n0_; have BK103 := n1_; have GW103 := n2_; have GE103 := n3_; clear n0_ n1_ n2_ n3_; clear hb hbox hg; have hcz14_0 : w13.cell? ⟨gb103, 0, none⟩ = some (.string a0_0) := (kCe BK103.out 0).trans rfl; have hcz14_1 : w13.cell? ⟨gb103, 1, none⟩ = some (.int .i64 a0_1) := (kCe BK103.out 1).trans rfl; have hcz14_2 : w13.cell? ⟨gb103, 2, none⟩ = some (.int .i64 a0_2) := (kCe BK103.out 2).trans rfl) | ((with_reducible refine gate_callee (f := 49) rfl ?_); refine gO 5 Tryz.func49 #[.string a0_0] ?_; (with_reducible refine (chars_Case.calls a0_0 t104 _ A2.out).mono ?_); rintro e w15 ⟨rfl, hb⟩; refine ⟨_, rfl, ?_⟩; replace BK103 := aK (kBe (g := gb103) (o := .cells #[.string a0_0, .int .i64 a0_1, .int .i64 a0_2] 165 (0, 0)) (kX BK103.out) hb); replace HB := aK (bSp (bX1 GE103.out) hb); clear hb))
  go_ret
  exact ⟨eX, bX1 GE103.out⟩
 rw [if_pos c3] at H
 obtain ⟨c3b0, c3b1⟩ := bY c3
 clear c3
 by_cases c4 : a0_1 ≥ 0
 rotate_left
 ·
  rw [if_neg c4] at H; have c4b0 : decide (0 ≤ a0_1) = false := decide_eq_false c4; clear c4; obtain rfl := oI H
  go_enter Tryz.func139, Tryz.ntmps139
  go_wp2_with (first | ((with_reducible refine gate_dst (N := 1) rfl ?_); (try (refine gate_guard (by rfl) ?_; dsimp only)); refine box_event ?hg (N := 1) ?hd (cs := #[.string a0_0, .int .i64 a0_1, .int .i64 a0_2]) (t := 165) ?hr ?_; (case hd => rfl); (case hg => rfl); (case hr => first | (go_simp; done) | (go_simp; rfl)); intro gb103 hg w9 hbox hb; have n0_ := aK (bSp bX hb); have n1_ := aK (hbox); have n2_ := aK ((by rw [hg]; exact (bSz bX) : w.heap.size ≤ gb103)); have n3_ := aK ((by rw [hg]; exact (bSz bX) : w.heap.size ≤ gb103)); clear HB; have HB := n0_; have BK103 := n1_; have GW103 := n2_; have GE103 := n3_; clear n0_ n1_ n2_ n3_; clear hb hbox hg; have hcz10_0 : w9.cell? ⟨gb103, 0, none⟩ = some (.string a0_0) := (kCe BK103.out 0).trans rfl; have hcz10_1 : w9.cell? ⟨gb103, 1, none⟩ = some (.int .i64 a0_1) := (kCe BK103.out 1).trans rfl; have hcz10_2 : w9.cell? ⟨gb103, 2, none⟩ = some (.int .i64 a0_2) := (kCe BK103.out 2).trans rfl) | ((with_reducible refine gate_callee (f := 49) rfl ?_); refine gO 5 Tryz.func49 #[.string a0_0] ?_; (with_reducible refine (chars_Case.calls a0_0 t104 _ A2.out).mono ?_); rintro e w11 ⟨rfl, hb⟩; refine ⟨_, rfl, ?_⟩; replace BK103 := aK (kBe (g := gb103) (o := .cells #[.string a0_0, .int .i64 a0_1, .int .i64 a0_2] 165 (0, 0)) (kX BK103.out) hb); replace HB := aK (bSp (bX1 GE103.out) hb); clear hb; have hcz12_0 : w11.cell? ⟨gb103, 0, none⟩ = some (.string a0_0) := (kCe BK103.out 0).trans rfl; have hcz12_1 : w11.cell? ⟨gb103, 1, none⟩ = some (.int .i64 a0_1) := (kCe BK103.out 1).trans rfl; have hcz12_2 : w11.cell? ⟨gb103, 2, none⟩ = some (.int .i64 a0_2) := (kCe BK103.out 2).trans rfl))
  go_ret
  exact ⟨eX, bX1 GE103.out⟩
 rw [if_pos c4] at H
 have c4b0 : decide (0 ≤ a0_1) = true := decide_eq_true c4
 clear c4
 obtain rfl := oI H
 go_enter Tryz.func139, Tryz.ntmps139
 go_wp2_with (first | ((with_reducible refine gate_dst (N := 1) rfl ?_); (try (refine gate_guard (by rfl) ?_; dsimp only)); refine box_event ?hg (N := 1) ?hd (cs := #[.string a0_0, .int .i64 a0_1, .int .i64 a0_2]) (t := 165) ?hr ?_; (case hd => rfl); (case hg => rfl); (case hr => first | (go_simp; done) | (go_simp; rfl)); intro gb103 hg w5 hbox hb; have n0_ := aK (bSp bX hb); have n1_ := aK (hbox); have n2_ := aK ((by rw [hg]; exact (bSz bX) : w.heap.size ≤ gb103)); have n3_ := aK ((by rw [hg]; exact (bSz bX) : w.heap.size ≤ gb103)); clear HB; have HB := n0_; have BK103 := n1_; have GW103 := n2_; have GE103 := n3_; clear n0_ n1_ n2_ n3_; clear hb hbox hg; have hcz6_0 : w5.cell? ⟨gb103, 0, none⟩ = some (.string a0_0) := (kCe BK103.out 0).trans rfl; have hcz6_1 : w5.cell? ⟨gb103, 1, none⟩ = some (.int .i64 a0_1) := (kCe BK103.out 1).trans rfl; have hcz6_2 : w5.cell? ⟨gb103, 2, none⟩ = some (.int .i64 a0_2) := (kCe BK103.out 2).trans rfl) | ((with_reducible refine gate_callee (f := 49) rfl ?_); refine gO 5 Tryz.func49 #[.string a0_0] ?_; (with_reducible refine (chars_Case.calls a0_0 t104 _ A2.out).mono ?_); rintro e w7 ⟨rfl, hb⟩; refine ⟨_, rfl, ?_⟩; replace BK103 := aK (kBe (g := gb103) (o := .cells #[.string a0_0, .int .i64 a0_1, .int .i64 a0_2] 165 (0, 0)) (kX BK103.out) hb); replace HB := aK (bSp (bX1 GE103.out) hb); clear hb; have hcz8_0 : w7.cell? ⟨gb103, 0, none⟩ = some (.string a0_0) := (kCe BK103.out 0).trans rfl; have hcz8_1 : w7.cell? ⟨gb103, 1, none⟩ = some (.int .i64 a0_1) := (kCe BK103.out 1).trans rfl; have hcz8_2 : w7.cell? ⟨gb103, 2, none⟩ = some (.int .i64 a0_2) := (kCe BK103.out 2).trans rfl))
 go_ret
 exact ⟨eX, bX1 GE103.out⟩
def part_choice_over.f (a0_0 : Int) (a0_1 : ByteArray) (a0_2 : ByteArray) (a0_3 : Int) (a0_4 : Int) (a0_5 : Int) (a1_0 : Int) (a1_1 : ByteArray) (a1_2 : ByteArray) (a1_3 : Int) (a1_4 : Int) (a1_5 : Int) : Option (Bool) := if a0_3 = a1_3 then (if (a0_1.size : Int) = (a1_1.size : Int) then (some (decide (a0_5 < a1_5))) else (some (decide ((a0_1.size : Int) > (a1_1.size : Int))))) else (some (decide (a0_3 < a1_3)))
theorem part_choice_over.calls (a0_0 : Int) (a0_1 : ByteArray) (a0_2 : ByteArray) (a0_3 : Int) (a0_4 : Int) (a0_5 : Int) (a1_0 : Int) (a1_1 : ByteArray) (a1_2 : ByteArray) (a1_3 : Int) (a1_4 : Int) (a1_5 : Int) (r : Bool) (w : World) (h : part_choice_over.f a0_0 a0_1 a0_2 a0_3 a0_4 a0_5 a1_0 a1_1 a1_2 a1_3 a1_4 a1_5 = some r) :
  Calls Tryz.prog 151 #[.agg #[.int .i64 a0_0, .string a0_1, .string a0_2, .int .i64 a0_3, .int .i64 a0_4, .int .i64 a0_5], .agg #[.int .i64 a1_0, .string a1_1, .string a1_2, .int .i64 a1_3, .int .i64 a1_4, .int .i64 a1_5]] w fun e w' => e = .returned (.bool r) ∧ Below w.heap.size w w' := by
 have hu175 := Tryz.underlying175
 have HB := aK (Below.refl w.heap.size w)
 have H : (if a0_3 = a1_3 then (if (a0_1.size : Int) = (a1_1.size : Int) then (some (decide (a0_5 < a1_5))) else (some (decide ((a0_1.size : Int) > (a1_1.size : Int))))) else (some (decide (a0_3 < a1_3)))) = some r := h
 clear h
 by_cases c3 : a0_3 = a1_3
 rotate_left
 ·
  rw [if_neg c3] at H; obtain ⟨c3b0, c3b1⟩ := bN c3; obtain rfl := oI H
  go_enter Tryz.func151, Tryz.ntmps151
  go_wp2_with (first | ((with_reducible refine gate_dst (N := 2) rfl ?_); refine box_event ?hg (N := 2) ?hd (cs := #[.int .i64 a0_0, .string a0_1, .string a0_2, .int .i64 a0_3, .int .i64 a0_4, .int .i64 a0_5]) (t := 175) ?hr ?_; (case hd => rfl); (case hg => rfl); (case hr => first | (go_simp; done) | (go_simp; rfl)); intro gb105 hg w15 hbox hb; have n0_ := aK (bSp bX hb); have n1_ := aK (hbox); have n2_ := aK ((by rw [hg]; exact (bSz bX) : w.heap.size ≤ gb105)); have n3_ := aK ((by rw [hg]; exact (bSz bX) : w.heap.size ≤ gb105)); clear HB; have HB := n0_; have BK105 := n1_; have GW105 := n2_; have GE105 := n3_; clear n0_ n1_ n2_ n3_; clear hb hbox hg) | ((with_reducible refine gate_dst (N := 3) rfl ?_); refine box_event ?hg (N := 3) ?hd (cs := #[.int .i64 a1_0, .string a1_1, .string a1_2, .int .i64 a1_3, .int .i64 a1_4, .int .i64 a1_5]) (t := 175) ?hr ?_; (case hd => rfl); (case hg => rfl); (case hr => first | (go_simp; done) | (go_simp; rfl)); intro gb106 hg w16 hbox hb; have n0_ := aK (kBe (g := gb105) (o := .cells #[.int .i64 a0_0, .string a0_1, .string a0_2, .int .i64 a0_3, .int .i64 a0_4, .int .i64 a0_5] 175 (0, 0)) (kX BK105.out) hb); have n1_ := aK (bSp (bX1 GE105.out) hb); have n2_ := aK (hbox); have n3_ := aK ((by rw [hg]; exact (bSz (bX1 GE105.out)) : w.heap.size ≤ gb106)); have n4_ := aK ((by rw [hg]; exact (bSz (bX1 GE105.out)) : w.heap.size ≤ gb106)); have n5_ := aK ((by rw [hg]; exact Nat.ne_of_lt (blk_lt (g := gb105) (o := .cells #[.int .i64 a0_0, .string a0_1, .string a0_2, .int .i64 a0_3, .int .i64 a0_4, .int .i64 a0_5] 175 (0, 0)) (kX BK105.out)) : gb105 ≠ gb106)); have n6_ := aK ((by rw [hg]; exact Nat.ne_of_gt (blk_lt (g := gb105) (o := .cells #[.int .i64 a0_0, .string a0_1, .string a0_2, .int .i64 a0_3, .int .i64 a0_4, .int .i64 a0_5] 175 (0, 0)) (kX BK105.out)) : gb106 ≠ gb105)); clear BK105; clear HB; have BK105 := n0_; have HB := n1_; have BK106 := n2_; have GW106 := n3_; have GE106 := n4_; have NB105_106 := n5_; have NB106_105 := n6_; clear n0_ n1_ n2_ n3_ n4_ n5_ n6_; clear hb hbox hg; have hnb17 := NB105_106.out; have hnc17 := NB106_105.out; have hcz18_0 : w16.cell? ⟨gb105, 0, none⟩ = some (.int .i64 a0_0) := (kCe BK105.out 0).trans rfl; have hcz18_1 : w16.cell? ⟨gb105, 1, none⟩ = some (.string a0_1) := (kCe BK105.out 1).trans rfl; have hcz18_2 : w16.cell? ⟨gb105, 2, none⟩ = some (.string a0_2) := (kCe BK105.out 2).trans rfl; have hcz18_3 : w16.cell? ⟨gb105, 3, none⟩ = some (.int .i64 a0_3) := (kCe BK105.out 3).trans rfl; have hcz18_4 : w16.cell? ⟨gb105, 4, none⟩ = some (.int .i64 a0_4) := (kCe BK105.out 4).trans rfl; have hcz18_5 : w16.cell? ⟨gb105, 5, none⟩ = some (.int .i64 a0_5) := (kCe BK105.out 5).trans rfl; have hcz19_0 : w16.cell? ⟨gb106, 0, none⟩ = some (.int .i64 a1_0) := (kCe BK106.out 0).trans rfl; have hcz19_1 : w16.cell? ⟨gb106, 1, none⟩ = some (.string a1_1) := (kCe BK106.out 1).trans rfl; have hcz19_2 : w16.cell? ⟨gb106, 2, none⟩ = some (.string a1_2) := (kCe BK106.out 2).trans rfl; have hcz19_3 : w16.cell? ⟨gb106, 3, none⟩ = some (.int .i64 a1_3) := (kCe BK106.out 3).trans rfl; have hcz19_4 : w16.cell? ⟨gb106, 4, none⟩ = some (.int .i64 a1_4) := (kCe BK106.out 4).trans rfl; have hcz19_5 : w16.cell? ⟨gb106, 5, none⟩ = some (.int .i64 a1_5) := (kCe BK106.out 5).trans rfl))
  go_ret
  exact ⟨eX, bX2 GE105.out GE106.out⟩
 rw [if_pos c3] at H
 obtain ⟨c3b0, c3b1⟩ := bY c3
 clear c3
 by_cases c4 : (a0_1.size : Int) = (a1_1.size : Int)
 rotate_left
 ·
  rw [if_neg c4] at H; obtain ⟨c4b0, c4b1⟩ := bN c4
  have c4b2 : (a0_1.size == a1_1.size) = false := by first | simpa using c4 | (simp at c4 ⊢; omega)
  obtain rfl := oI H
  go_enter Tryz.func151, Tryz.ntmps151
  go_wp2_with (first | ((with_reducible refine gate_dst (N := 2) rfl ?_); refine box_event ?hg (N := 2) ?hd (cs := #[.int .i64 a0_0, .string a0_1, .string a0_2, .int .i64 a0_3, .int .i64 a0_4, .int .i64 a0_5]) (t := 175) ?hr ?_; (case hd => rfl); (case hg => rfl); (case hr => first | (go_simp; done) | (go_simp; rfl)); intro gb105 hg w10 hbox hb; have n0_ := aK (bSp bX hb); have n1_ := aK (hbox); have n2_ := aK ((by rw [hg]; exact (bSz bX) : w.heap.size ≤ gb105)); have n3_ := aK ((by rw [hg]; exact (bSz bX) : w.heap.size ≤ gb105)); clear HB; have HB := n0_; have BK105 := n1_; have GW105 := n2_; have GE105 := n3_; clear n0_ n1_ n2_ n3_; clear hb hbox hg) | ((with_reducible refine gate_dst (N := 3) rfl ?_); refine box_event ?hg (N := 3) ?hd (cs := #[.int .i64 a1_0, .string a1_1, .string a1_2, .int .i64 a1_3, .int .i64 a1_4, .int .i64 a1_5]) (t := 175) ?hr ?_; (case hd => rfl); (case hg => rfl); (case hr => first | (go_simp; done) | (go_simp; rfl)); intro gb106 hg w11 hbox hb; have n0_ := aK (kBe (g := gb105) (o := .cells #[.int .i64 a0_0, .string a0_1, .string a0_2, .int .i64 a0_3, .int .i64 a0_4, .int .i64 a0_5] 175 (0, 0)) (kX BK105.out) hb); have n1_ := aK (bSp (bX1 GE105.out) hb); have n2_ := aK (hbox); have n3_ := aK ((by rw [hg]; exact (bSz (bX1 GE105.out)) : w.heap.size ≤ gb106)); have n4_ := aK ((by rw [hg]; exact (bSz (bX1 GE105.out)) : w.heap.size ≤ gb106)); have n5_ := aK ((by rw [hg]; exact Nat.ne_of_lt (blk_lt (g := gb105) (o := .cells #[.int .i64 a0_0, .string a0_1, .string a0_2, .int .i64 a0_3, .int .i64 a0_4, .int .i64 a0_5] 175 (0, 0)) (kX BK105.out)) : gb105 ≠ gb106)); have n6_ := aK ((by rw [hg]; exact Nat.ne_of_gt (blk_lt (g := gb105) (o := .cells #[.int .i64 a0_0, .string a0_1, .string a0_2, .int .i64 a0_3, .int .i64 a0_4, .int .i64 a0_5] 175 (0, 0)) (kX BK105.out)) : gb106 ≠ gb105)); clear BK105; clear HB; have BK105 := n0_; have HB := n1_; have BK106 := n2_; have GW106 := n3_; have GE106 := n4_; have NB105_106 := n5_; have NB106_105 := n6_; clear n0_ n1_ n2_ n3_ n4_ n5_ n6_; clear hb hbox hg; have hnb12 := NB105_106.out; have hnc12 := NB106_105.out; have hcz13_0 : w11.cell? ⟨gb105, 0, none⟩ = some (.int .i64 a0_0) := (kCe BK105.out 0).trans rfl; have hcz13_1 : w11.cell? ⟨gb105, 1, none⟩ = some (.string a0_1) := (kCe BK105.out 1).trans rfl; have hcz13_2 : w11.cell? ⟨gb105, 2, none⟩ = some (.string a0_2) := (kCe BK105.out 2).trans rfl; have hcz13_3 : w11.cell? ⟨gb105, 3, none⟩ = some (.int .i64 a0_3) := (kCe BK105.out 3).trans rfl; have hcz13_4 : w11.cell? ⟨gb105, 4, none⟩ = some (.int .i64 a0_4) := (kCe BK105.out 4).trans rfl; have hcz13_5 : w11.cell? ⟨gb105, 5, none⟩ = some (.int .i64 a0_5) := (kCe BK105.out 5).trans rfl; have hcz14_0 : w11.cell? ⟨gb106, 0, none⟩ = some (.int .i64 a1_0) := (kCe BK106.out 0).trans rfl; have hcz14_1 : w11.cell? ⟨gb106, 1, none⟩ = some (.string a1_1) := (kCe BK106.out 1).trans rfl; have hcz14_2 : w11.cell? ⟨gb106, 2, none⟩ = some (.string a1_2) := (kCe BK106.out 2).trans rfl; have hcz14_3 : w11.cell? ⟨gb106, 3, none⟩ = some (.int .i64 a1_3) := (kCe BK106.out 3).trans rfl; have hcz14_4 : w11.cell? ⟨gb106, 4, none⟩ = some (.int .i64 a1_4) := (kCe BK106.out 4).trans rfl; have hcz14_5 : w11.cell? ⟨gb106, 5, none⟩ = some (.int .i64 a1_5) := (kCe BK106.out 5).trans rfl))
  go_ret
  exact ⟨eX, bX2 GE105.out GE106.out⟩
 rw [if_pos c4] at H
 obtain ⟨c4b0, c4b1⟩ := bY c4
 have c4b2 : (a0_1.size == a1_1.size) = true := by first | simpa using c4 | (simp at c4 ⊢; omega)
 clear c4
 obtain rfl := oI H
 go_enter Tryz.func151, Tryz.ntmps151
 go_wp2_with (first | ((with_reducible refine gate_dst (N := 2) rfl ?_); refine box_event ?hg (N := 2) ?hd (cs := #[.int .i64 a0_0, .string a0_1, .string a0_2, .int .i64 a0_3, .int .i64 a0_4, .int .i64 a0_5]) (t := 175) ?hr ?_; (case hd => rfl); (case hg => rfl); (case hr => first | (go_simp; done) | (go_simp; rfl)); intro gb105 hg w5 hbox hb; have n0_ := aK (bSp bX hb); have n1_ := aK (hbox); have n2_ := aK ((by rw [hg]; exact (bSz bX) : w.heap.size ≤ gb105)); have n3_ := aK ((by rw [hg]; exact (bSz bX) : w.heap.size ≤ gb105)); clear HB; have HB := n0_; have BK105 := n1_; have GW105 := n2_; have GE105 := n3_; clear n0_ n1_ n2_ n3_; clear hb hbox hg) | ((with_reducible refine gate_dst (N := 3) rfl ?_); refine box_event ?hg (N := 3) ?hd (cs := #[.int .i64 a1_0, .string a1_1, .string a1_2, .int .i64 a1_3, .int .i64 a1_4, .int .i64 a1_5]) (t := 175) ?hr ?_; (case hd => rfl); (case hg => rfl); (case hr => first | (go_simp; done) | (go_simp; rfl)); intro gb106 hg w6 hbox hb; have n0_ := aK (kBe (g := gb105) (o := .cells #[.int .i64 a0_0, .string a0_1, .string a0_2, .int .i64 a0_3, .int .i64 a0_4, .int .i64 a0_5] 175 (0, 0)) (kX BK105.out) hb); have n1_ := aK (bSp (bX1 GE105.out) hb); have n2_ := aK (hbox); have n3_ := aK ((by rw [hg]; exact (bSz (bX1 GE105.out)) : w.heap.size ≤ gb106)); have n4_ := aK ((by rw [hg]; exact (bSz (bX1 GE105.out)) : w.heap.size ≤ gb106)); have n5_ := aK ((by rw [hg]; exact Nat.ne_of_lt (blk_lt (g := gb105) (o := .cells #[.int .i64 a0_0, .string a0_1, .string a0_2, .int .i64 a0_3, .int .i64 a0_4, .int .i64 a0_5] 175 (0, 0)) (kX BK105.out)) : gb105 ≠ gb106)); have n6_ := aK ((by rw [hg]; exact Nat.ne_of_gt (blk_lt (g := gb105) (o := .cells #[.int .i64 a0_0, .string a0_1, .string a0_2, .int .i64 a0_3, .int .i64 a0_4, .int .i64 a0_5] 175 (0, 0)) (kX BK105.out)) : gb106 ≠ gb105)); clear BK105; clear HB; have BK105 := n0_; have HB := n1_; have BK106 := n2_; have GW106 := n3_; have GE106 := n4_; have NB105_106 := n5_; have NB106_105 := n6_; clear n0_ n1_ n2_ n3_ n4_ n5_ n6_; clear hb hbox hg; have hnb7 := NB105_106.out; have hnc7 := NB106_105.out; have hcz8_0 : w6.cell? ⟨gb105, 0, none⟩ = some (.int .i64 a0_0) := (kCe BK105.out 0).trans rfl; have hcz8_1 : w6.cell? ⟨gb105, 1, none⟩ = some (.string a0_1) := (kCe BK105.out 1).trans rfl; have hcz8_2 : w6.cell? ⟨gb105, 2, none⟩ = some (.string a0_2) := (kCe BK105.out 2).trans rfl; have hcz8_3 : w6.cell? ⟨gb105, 3, none⟩ = some (.int .i64 a0_3) := (kCe BK105.out 3).trans rfl; have hcz8_4 : w6.cell? ⟨gb105, 4, none⟩ = some (.int .i64 a0_4) := (kCe BK105.out 4).trans rfl; have hcz8_5 : w6.cell? ⟨gb105, 5, none⟩ = some (.int .i64 a0_5) := (kCe BK105.out 5).trans rfl; have hcz9_0 : w6.cell? ⟨gb106, 0, none⟩ = some (.int .i64 a1_0) := (kCe BK106.out 0).trans rfl; have hcz9_1 : w6.cell? ⟨gb106, 1, none⟩ = some (.string a1_1) := (kCe BK106.out 1).trans rfl; have hcz9_2 : w6.cell? ⟨gb106, 2, none⟩ = some (.string a1_2) := (kCe BK106.out 2).trans rfl; have hcz9_3 : w6.cell? ⟨gb106, 3, none⟩ = some (.int .i64 a1_3) := (kCe BK106.out 3).trans rfl; have hcz9_4 : w6.cell? ⟨gb106, 4, none⟩ = some (.int .i64 a1_4) := (kCe BK106.out 4).trans rfl; have hcz9_5 : w6.cell? ⟨gb106, 5, none⟩ = some (.int .i64 a1_5) := (kCe BK106.out 5).trans rfl))
 go_ret
 exact ⟨eX, bX2 GE105.out GE106.out⟩
end Go.Proofs.YtbpbniemjjhecaaGreat.PChk
