import Derived.Test.YtbpbniemjjhecaaGreatZPChk0
import Derived.Test.YtbpbniemjjhecaaGreatZPChk2
import Derived.Test.YtbpbniemjjhecaaGreatZPChk5
section
namespace Go.Proofs.YtbpbniemjjhecaaGreat.PChk
open Go.RowKit Go.Proofs.YtbpbniemjjhecaaGreat.G Go.Proofs.YtbpbniemjjhecaaGreatW.PrintWords Go.Proofs.YtbpbniemjjhecaaGreatW.PrintLast Go.Proofs.YtbpbniemjjhecaaGreatW.PrintMore
attribute [local go_sem] max2_int min2_int max_two min_two max_three min_three max_four min_four
set_option linter.unusedVariables false
set_option linter.unusedSimpArgs false
set_option maxHeartbeats 8000000
set_option maxRecDepth 100000
mutual
def check_Clash.j0 : Nat → Bool → Int → ByteArray → ByteArray → Int → Int → Int → ByteArray → ByteArray → Int → Int → Option (Bool)
 | 0, _, _, _, _, _, _, _, _, _, _, _ => none
 | k + 1, x29, x160000, x160001, x160002, x160003, x160004, x161000, x161001, x161002, x161003, x161004 => if x29 = true then (some true) else (check_Clash.l0 k 1 x160000 x160001 x160002 x160003 x160004 x161000 x161001 x161002 x161003 x161004)
def check_Clash.l0 : Nat → Int → Int → ByteArray → ByteArray → Int → Int → Int → ByteArray → ByteArray → Int → Int → Option (Bool)
 | 0, _, _, _, _, _, _, _, _, _, _, _ => none
 | k + 1, x5, x160000, x160001, x160002, x160003, x160004, x161000, x161001, x161002, x161003, x161004 => if x5 ≤ 3 then ((check_In.f k x160000 x160001 x160002 x160003 x160004 x5).bind fun t163 => (if t163 = true then ((check_In.f k x161000 x161001 x161002 x161003 x161004 x5).bind fun t164 => (if t164 = true then ((check_begins.f x160002 x161002).bind fun t165 => (if t165 = true then (some true) else (check_Clash.l0 k (wrap64 (x5 + 1)) x160000 x160001 x160002 x160003 x160004 x161000 x161001 x161002 x161003 x161004))) else (check_Clash.l0 k (wrap64 (x5 + 1)) x160000 x160001 x160002 x160003 x160004 x161000 x161001 x161002 x161003 x161004))) else (check_Clash.l0 k (wrap64 (x5 + 1)) x160000 x160001 x160002 x160003 x160004 x161000 x161001 x161002 x161003 x161004))) else ((check_spoils.f k x160000 x160001 x160002 x160003 x160004 x161000 x161001 x161002 x161003 x161004).bind fun t161 => (if t161 = true then (some true) else ((check_spoils.f k x161000 x161001 x161002 x161003 x161004 x160000 x160001 x160002 x160003 x160004).bind fun t162 => (some t162))))
end
def check_Clash.f (k : Nat) (a0_0 : Int) (a0_1 : ByteArray) (a0_2 : ByteArray) (a0_3 : Int) (a0_4 : Int) (a1_0 : Int) (a1_1 : ByteArray) (a1_2 : ByteArray) (a1_3 : Int) (a1_4 : Int) : Option (Bool) := if a0_0 = a1_0 then (if a0_1.toList = a1_1.toList then (check_Clash.j0 k true a0_0 a0_1 a0_2 a0_3 a0_4 a1_0 a1_1 a1_2 a1_3 a1_4) else (if a0_0 = 5 then (check_Clash.j0 k (a0_2.toList == a1_2.toList) a0_0 a0_1 a0_2 a0_3 a0_4 a1_0 a1_1 a1_2 a1_3 a1_4) else (check_Clash.j0 k false a0_0 a0_1 a0_2 a0_3 a0_4 a1_0 a1_1 a1_2 a1_3 a1_4))) else (check_Clash.j0 k false a0_0 a0_1 a0_2 a0_3 a0_4 a1_0 a1_1 a1_2 a1_3 a1_4)
theorem check_Clash.calls (k : Nat) (a0_0 : Int) (a0_1 : ByteArray) (a0_2 : ByteArray) (a0_3 : Int) (a0_4 : Int) (a1_0 : Int) (a1_1 : ByteArray) (a1_2 : ByteArray) (a1_3 : Int) (a1_4 : Int) (r : Bool) (w : World) (h : check_Clash.f k a0_0 a0_1 a0_2 a0_3 a0_4 a1_0 a1_1 a1_2 a1_3 a1_4 = some r) :
  Calls Tryz.prog 78 #[.agg #[.int .i64 a0_0, .string a0_1, .string a0_2, .int .i64 a0_3, .int .i64 a0_4], .agg #[.int .i64 a1_0, .string a1_1, .string a1_2, .int .i64 a1_3, .int .i64 a1_4]] w fun e w' => e = .returned (.bool r) ∧ Below w.heap.size w w' := by
 have hu50 := Tryz.underlying50
 have HB := aK (Below.refl w.heap.size w)
 have H : (if a0_0 = a1_0 then (if a0_1.toList = a1_1.toList then (check_Clash.j0 k true a0_0 a0_1 a0_2 a0_3 a0_4 a1_0 a1_1 a1_2 a1_3 a1_4) else (if a0_0 = 5 then (check_Clash.j0 k (a0_2.toList == a1_2.toList) a0_0 a0_1 a0_2 a0_3 a0_4 a1_0 a1_1 a1_2 a1_3 a1_4) else (check_Clash.j0 k false a0_0 a0_1 a0_2 a0_3 a0_4 a1_0 a1_1 a1_2 a1_3 a1_4))) else (check_Clash.j0 k false a0_0 a0_1 a0_2 a0_3 a0_4 a1_0 a1_1 a1_2 a1_3 a1_4)) = some r := h
 clear h
 have HC3 := aK H
 clear H
 go_enter Tryz.func78, Tryz.ntmps78
 go_upto_region 1 with (first | ((with_reducible refine gate_dst (N := 2) rfl ?_); refine box_event ?hg (N := 2) ?hd (cs := #[.int .i64 a0_0, .string a0_1, .string a0_2, .int .i64 a0_3, .int .i64 a0_4]) (t := 50) ?hr ?_; (case hd => rfl); (case hg => rfl); (case hr => first | (go_simp; done) | (go_simp; rfl)); intro gb159 hg w4 hbox hb; have n0_ := aK (bSp bX hb); have n1_ := aK (hbox); have n2_ := aK ((by rw [hg]; exact (bSz bX) : w.heap.size ≤ gb159)); have n3_ := aK ((by rw [hg]; exact (bSz bX) : w.heap.size ≤ gb159)); clear HB; have HB := n0_; have BK159 := n1_; have GW159 := n2_; have GE159 := n3_; clear n0_ n1_ n2_ n3_; clear hb hbox hg) | ((with_reducible refine gate_dst (N := 3) rfl ?_); refine box_event ?hg (N := 3) ?hd (cs := #[.int .i64 a1_0, .string a1_1, .string a1_2, .int .i64 a1_3, .int .i64 a1_4]) (t := 50) ?hr ?_; (case hd => rfl); (case hg => rfl); (case hr => first | (go_simp; done) | (go_simp; rfl)); intro gb160 hg w5 hbox hb; have n0_ := aK (kBe (g := gb159) (o := .cells #[.int .i64 a0_0, .string a0_1, .string a0_2, .int .i64 a0_3, .int .i64 a0_4] 50 (0, 0)) (kX BK159.out) hb); have n1_ := aK (bSp (bX1 GE159.out) hb); have n2_ := aK (hbox); have n3_ := aK ((by rw [hg]; exact (bSz (bX1 GE159.out)) : w.heap.size ≤ gb160)); have n4_ := aK ((by rw [hg]; exact (bSz (bX1 GE159.out)) : w.heap.size ≤ gb160)); have n5_ := aK ((by rw [hg]; exact Nat.ne_of_lt (blk_lt (g := gb159) (o := .cells #[.int .i64 a0_0, .string a0_1, .string a0_2, .int .i64 a0_3, .int .i64 a0_4] 50 (0, 0)) (kX BK159.out)) : gb159 ≠ gb160)); have n6_ := aK ((by rw [hg]; exact Nat.ne_of_gt (blk_lt (g := gb159) (o := .cells #[.int .i64 a0_0, .string a0_1, .string a0_2, .int .i64 a0_3, .int .i64 a0_4] 50 (0, 0)) (kX BK159.out)) : gb160 ≠ gb159)); clear BK159; clear HB; have BK159 := n0_; have HB := n1_; have BK160 := n2_; have GW160 := n3_; have GE160 := n4_; have NB159_160 := n5_; have NB160_159 := n6_; clear n0_ n1_ n2_ n3_ n4_ n5_ n6_; clear hb hbox hg))
 (try simp only [Act.put, qSa, qS0, qS1])
 go_cut [29] (fun v29 wc => ∃ (kq : Nat) (x29_2 : Bool), v29 = .bool x29_2 ∧ Aside0 (check_Clash.j0 kq x29_2 a0_0 a0_1 a0_2 a0_3 a0_4 a1_0 a1_1 a1_2 a1_3 a1_4 = some r) ∧ Aside0 (kq ≤ k) ∧ Aside0 (wc.heap[gb159]? = some (.cells #[.int .i64 a0_0, .string a0_1, .string a0_2, .int .i64 a0_3, .int .i64 a0_4] 50 (0, 0))) ∧ Aside0 (wc.heap[gb160]? = some (.cells #[.int .i64 a1_0, .string a1_1, .string a1_2, .int .i64 a1_3, .int .i64 a1_4] 50 (0, 0))) ∧ Aside0 (Below w.heap.size w wc))
 case first =>
  have H := HC3.out; clear HC3
  by_cases c6 : a0_0 = a1_0
  rotate_left
  ·
   rw [if_neg c6] at H; obtain ⟨c6b0, c6b1⟩ := bN c6
   (first | rw [c6b0] | (simp only [i64_w, i32_w]; rw [c6b0]) | skip)
   have H' := aK H; clear H; have hnb18 := NB159_160.out; have hnc18 := NB160_159.out; obtain ⟨hcz19_0, hcz19_1, hcz19_2, hcz19_3, hcz19_4⟩ := kC5 BK159.out; obtain ⟨hcz20_0, hcz20_1, hcz20_2, hcz20_3, hcz20_4⟩ := kC5 BK160.out
   go_wp2
   go_meet
   case rel => exact ⟨_, (false), sX, H', ⟨by first | omega | exact Nat.le_refl _⟩, ⟨kX BK159.out⟩, ⟨kX BK160.out⟩, ⟨bX2 GE159.out GE160.out⟩⟩
  rw [if_pos c6] at H; obtain ⟨c6b0, c6b1⟩ := bY c6; clear c6
  (first | rw [c6b0] | (simp only [i64_w, i32_w]; rw [c6b0]) | skip)
  by_cases c7 : a0_1.toList = a1_1.toList
  rotate_left
  ·
   rw [if_neg c7] at H; obtain ⟨c7b0, c7b1⟩ := bN c7
   by_cases c11 : a0_0 = 5
   rotate_left
   ·
    rw [if_neg c11] at H; obtain ⟨c11b0, c11b1⟩ := bN c11; have H' := aK H; clear H; have hnb15 := NB159_160.out; have hnc15 := NB160_159.out; obtain ⟨hcz16_0, hcz16_1, hcz16_2, hcz16_3, hcz16_4⟩ := kC5 BK159.out; obtain ⟨hcz17_0, hcz17_1, hcz17_2, hcz17_3, hcz17_4⟩ := kC5 BK160.out
    go_wp2
    go_meet
    case rel => exact ⟨_, (false), sX, H', ⟨by first | omega | exact Nat.le_refl _⟩, ⟨kX BK159.out⟩, ⟨kX BK160.out⟩, ⟨bX2 GE159.out GE160.out⟩⟩
   rw [if_pos c11] at H; obtain ⟨c11b0, c11b1⟩ := bY c11; clear c11; have H' := aK H; clear H; have hnb12 := NB159_160.out; have hnc12 := NB160_159.out; obtain ⟨hcz13_0, hcz13_1, hcz13_2, hcz13_3, hcz13_4⟩ := kC5 BK159.out; obtain ⟨hcz14_0, hcz14_1, hcz14_2, hcz14_3, hcz14_4⟩ := kC5 BK160.out
   go_wp2
   go_meet
   case rel => exact ⟨_, ((a0_2.toList == a1_2.toList)), sX, H', ⟨by first | omega | exact Nat.le_refl _⟩, ⟨kX BK159.out⟩, ⟨kX BK160.out⟩, ⟨bX2 GE159.out GE160.out⟩⟩
  rw [if_pos c7] at H; obtain ⟨c7b0, c7b1⟩ := bY c7; clear c7; have H' := aK H; clear H; have hnb8 := NB159_160.out; have hnc8 := NB160_159.out; obtain ⟨hcz9_0, hcz9_1, hcz9_2, hcz9_3, hcz9_4⟩ := kC5 BK159.out; obtain ⟨hcz10_0, hcz10_1, hcz10_2, hcz10_3, hcz10_4⟩ := kC5 BK160.out
  go_wp2
  go_meet
  case rel => exact ⟨_, (true), sX, H', ⟨by first | omega | exact Nat.le_refl _⟩, ⟨kX BK159.out⟩, ⟨kX BK160.out⟩, ⟨bX2 GE159.out GE160.out⟩⟩
 case rest =>
  clear HC3
  try clear c1
  try clear p2
  try clear c6
  try clear c6b0
  try clear c6b1
  try clear c7
  try clear c7b0
  try clear c7b1
  try clear c8
  try clear c11
  try clear c11b0
  try clear c11b1
  try clear c12
  try clear c15
  try clear c18
  try clear hcz10_0
  try clear hcz10_1
  try clear hcz10_2
  try clear hcz10_3
  try clear hcz10_4
  try clear hcz13_0
  try clear hcz13_1
  try clear hcz13_2
  try clear hcz13_3
  try clear hcz13_4
  try clear hcz14_0
  try clear hcz14_1
  try clear hcz14_2
  try clear hcz14_3
  try clear hcz14_4
  try clear hcz16_0
  try clear hcz16_1
  try clear hcz16_2
  try clear hcz16_3
  try clear hcz16_4
  try clear hcz17_0
  try clear hcz17_1
  try clear hcz17_2
  try clear hcz17_3
  try clear hcz17_4
  try clear hcz19_0
  try clear hcz19_1
  try clear hcz19_2
  try clear hcz19_3
  try clear hcz19_4
  try clear hcz20_0
  try clear hcz20_1
  try clear hcz20_2
  try clear hcz20_3
  try clear hcz20_4
  try clear hcz9_0
  try clear hcz9_1
  try clear hcz9_2
  try clear hcz9_3
  try clear hcz9_4
  obtain ⟨kq, x29_2, rfl, HA, HJ2, BK159, BK160, HB⟩ := hcut
  cases kq with
  | zero => exact absurd HA.out (by simp [check_Clash.j0])
  | succ kj2 =>
   have H := HA.out; clear HA
   simp only [check_Clash.j0] at H
   by_cases c21 : x29_2 = true
   rotate_left
   ·
    replace c21 := Bool.eq_false_iff.mpr c21; subst c21
    have H1 : (check_Clash.l0 kj2 1 a0_0 a0_1 a0_2 a0_3 a0_4 a1_0 a1_1 a1_2 a1_3 a1_4) = some r := by rw [if_neg (show ¬ (false = true) by decide)] at H; exact H
    clear H
    have H := H1
    clear H1; have H' := aK H; clear H
    go_wp2
    go_loopg [5] kj2 (fun kq v5 w' => ∃ (x5_2 : Int), v5 = .int .i64 x5_2 ∧ Aside0 (check_Clash.l0 kq x5_2 a0_0 a0_1 a0_2 a0_3 a0_4 a1_0 a1_1 a1_2 a1_3 a1_4 = some r) ∧ Aside0 (kq ≤ kj2) ∧ Aside0 (w'.heap[gb159]? = some (.cells #[.int .i64 a0_0, .string a0_1, .string a0_2, .int .i64 a0_3, .int .i64 a0_4] 50 (0, 0))) ∧ Aside0 (w'.heap[gb160]? = some (.cells #[.int .i64 a1_0, .string a1_1, .string a1_2, .int .i64 a1_3, .int .i64 a1_4] 50 (0, 0))) ∧ Aside0 (Below w.heap.size w w'))
    case atStart => exact ⟨(1), sX, H', ⟨Nat.le_refl _⟩, ⟨kX BK159.out⟩, ⟨kX BK160.out⟩, ⟨bX2 GE159.out GE160.out⟩⟩
    case round =>
     clear H'
     try clear c1
     try clear c2
     try clear p2
     try clear c6
     try clear c6b0
     try clear c6b1
     try clear c7
     try clear c7b0
     try clear c7b1
     try clear c8
     try clear c11
     try clear c11b0
     try clear c11b1
     try clear c12
     try clear c15
     try clear c18
     try clear c21
     try clear hcz10_0
     try clear hcz10_1
     try clear hcz10_2
     try clear hcz10_3
     try clear hcz10_4
     try clear hcz13_0
     try clear hcz13_1
     try clear hcz13_2
     try clear hcz13_3
     try clear hcz13_4
     try clear hcz14_0
     try clear hcz14_1
     try clear hcz14_2
     try clear hcz14_3
     try clear hcz14_4
     try clear hcz16_0
     try clear hcz16_1
     try clear hcz16_2
     try clear hcz16_3
     try clear hcz16_4
     try clear hcz17_0
     try clear hcz17_1
     try clear hcz17_2
     try clear hcz17_3
     try clear hcz17_4
     try clear hcz19_0
     try clear hcz19_1
     try clear hcz19_2
     try clear hcz19_3
     try clear hcz19_4
     try clear hcz20_0
     try clear hcz20_1
     try clear hcz20_2
     try clear hcz20_3
     try clear hcz20_4
     try clear hcz9_0
     try clear hcz9_1
     try clear hcz9_2
     try clear hcz9_3
     try clear hcz9_4
     try clear p2
     obtain ⟨x5_2, rfl, HA, HK2, BK159, BK160, HB⟩ := hrel
     cases gk with
     | zero => exact absurd HA.out (by simp [check_Clash.l0])
     | succ k2 =>
      have H := HA.out; clear HA
      simp only [check_Clash.l0] at H
      by_cases c22 : x5_2 ≤ 3
      rotate_left
      ·
       rw [if_neg c22] at H; have c22b0 : decide (x5_2 ≤ 3) = false := decide_eq_false c22; clear c22; obtain ⟨t161, A51, H⟩ := oC H
       try dsimp only at H
       by_cases c52 : t161 = true
       rotate_left
       ·
        replace c52 := Bool.eq_false_iff.mpr c52; subst c52
        have H1 : ((check_spoils.f k2 a1_0 a1_1 a1_2 a1_3 a1_4 a0_0 a0_1 a0_2 a0_3 a0_4).bind fun t162 => (some t162)) = some r := by rw [if_neg (show ¬ (false = true) by decide)] at H; exact H
        clear H
        have H := H1
        clear H1
        replace H := oB H
        obtain ⟨t162, A570, H⟩ := H
        replace H : (some t162) = some r := H
        have A57 := aK A570; clear A570; obtain rfl := oI H; have hnb58 := NB159_160.out; have hnc58 := NB160_159.out; obtain ⟨hcz59_0, hcz59_1, hcz59_2, hcz59_3, hcz59_4⟩ := kC5 BK159.out; obtain ⟨hcz60_0, hcz60_1, hcz60_2, hcz60_3, hcz60_4⟩ := kC5 BK160.out
        go_wp2_with (first | ((with_reducible refine gate_callee (f := 110) rfl ?_); refine gO 51 Tryz.func110 #[.agg #[.int .i64 a0_0, .string a0_1, .string a0_2, .int .i64 a0_3, .int .i64 a0_4], .agg #[.int .i64 a1_0, .string a1_1, .string a1_2, .int .i64 a1_3, .int .i64 a1_4]] ?_; (with_reducible refine (check_spoils.calls k2 a0_0 a0_1 a0_2 a0_3 a0_4 a1_0 a1_1 a1_2 a1_3 a1_4 false _ A51.out).mono ?_); rintro e w61 ⟨rfl, hb⟩; refine ⟨_, rfl, ?_⟩; replace BK159 := aK (kBe (g := gb159) (o := .cells #[.int .i64 a0_0, .string a0_1, .string a0_2, .int .i64 a0_3, .int .i64 a0_4] 50 (0, 0)) (kX BK159.out) hb); replace BK160 := aK (kBe (g := gb160) (o := .cells #[.int .i64 a1_0, .string a1_1, .string a1_2, .int .i64 a1_3, .int .i64 a1_4] 50 (0, 0)) (kX BK160.out) hb); replace HB := aK (bSp (bX2 GE159.out GE160.out) hb); clear hb; have hcz62_0 : w61.cell? ⟨gb160, 0, none⟩ = some (.int .i64 a1_0) := (kCe BK160.out 0).trans rfl; have hcz62_1 : w61.cell? ⟨gb160, 1, none⟩ = some (.string a1_1) := (kCe BK160.out 1).trans rfl; have hcz62_2 : w61.cell? ⟨gb160, 2, none⟩ = some (.string a1_2) := (kCe BK160.out 2).trans rfl; have hcz62_3 : w61.cell? ⟨gb160, 3, none⟩ = some (.int .i64 a1_3) := (kCe BK160.out 3).trans rfl; have hcz62_4 : w61.cell? ⟨gb160, 4, none⟩ = some (.int .i64 a1_4) := (kCe BK160.out 4).trans rfl; have hcz63_0 : w61.cell? ⟨gb159, 0, none⟩ = some (.int .i64 a0_0) := (kCe BK159.out 0).trans rfl; have hcz63_1 : w61.cell? ⟨gb159, 1, none⟩ = some (.string a0_1) := (kCe BK159.out 1).trans rfl; have hcz63_2 : w61.cell? ⟨gb159, 2, none⟩ = some (.string a0_2) := (kCe BK159.out 2).trans rfl; have hcz63_3 : w61.cell? ⟨gb159, 3, none⟩ = some (.int .i64 a0_3) := (kCe BK159.out 3).trans rfl; have hcz63_4 : w61.cell? ⟨gb159, 4, none⟩ = some (.int .i64 a0_4) := (kCe BK159.out 4).trans rfl) | (go_at_call 110; (with_reducible refine (check_spoils.calls k2 a1_0 a1_1 a1_2 a1_3 a1_4 a0_0 a0_1 a0_2 a0_3 a0_4 t162 _ A57.out).mono ?_); rintro e w64 ⟨rfl, hb⟩; replace BK159 := aK (kBe (g := gb159) (o := .cells #[.int .i64 a0_0, .string a0_1, .string a0_2, .int .i64 a0_3, .int .i64 a0_4] 50 (0, 0)) (kX BK159.out) hb); replace BK160 := aK (kBe (g := gb160) (o := .cells #[.int .i64 a1_0, .string a1_1, .string a1_2, .int .i64 a1_3, .int .i64 a1_4] 50 (0, 0)) (kX BK160.out) hb); replace HB := aK (bSp (bX2 GE159.out GE160.out) hb); clear hb))
        go_ret
        exact ⟨eX, bX2 GE159.out GE160.out⟩
       subst c52
       have H1 : (some true) = some r := by rw [if_pos rfl] at H; exact H
       clear H
       have H := H1
       clear H1; obtain rfl := oI H; have hnb53 := NB159_160.out; have hnc53 := NB160_159.out; obtain ⟨hcz54_0, hcz54_1, hcz54_2, hcz54_3, hcz54_4⟩ := kC5 BK159.out; obtain ⟨hcz55_0, hcz55_1, hcz55_2, hcz55_3, hcz55_4⟩ := kC5 BK160.out
       go_wp2_with (first | ((with_reducible refine gate_callee (f := 110) rfl ?_); refine gO 51 Tryz.func110 #[.agg #[.int .i64 a0_0, .string a0_1, .string a0_2, .int .i64 a0_3, .int .i64 a0_4], .agg #[.int .i64 a1_0, .string a1_1, .string a1_2, .int .i64 a1_3, .int .i64 a1_4]] ?_; (with_reducible refine (check_spoils.calls k2 a0_0 a0_1 a0_2 a0_3 a0_4 a1_0 a1_1 a1_2 a1_3 a1_4 true _ A51.out).mono ?_); rintro e w56 ⟨rfl, hb⟩; refine ⟨_, rfl, ?_⟩; replace BK159 := aK (kBe (g := gb159) (o := .cells #[.int .i64 a0_0, .string a0_1, .string a0_2, .int .i64 a0_3, .int .i64 a0_4] 50 (0, 0)) (kX BK159.out) hb); replace BK160 := aK (kBe (g := gb160) (o := .cells #[.int .i64 a1_0, .string a1_1, .string a1_2, .int .i64 a1_3, .int .i64 a1_4] 50 (0, 0)) (kX BK160.out) hb); replace HB := aK (bSp (bX2 GE159.out GE160.out) hb); clear hb))
       go_ret
       exact ⟨eX, bX2 GE159.out GE160.out⟩
      rw [if_pos c22] at H; have c22b0 : decide (x5_2 ≤ 3) = true := decide_eq_true c22; clear c22; obtain ⟨t163, A23, H⟩ := oC H
      try dsimp only at H
      by_cases c24 : t163 = true
      rotate_left
      ·
       replace c24 := Bool.eq_false_iff.mpr c24; subst c24
       have H1 : (check_Clash.l0 k2 (wrap64 (x5_2 + 1)) a0_0 a0_1 a0_2 a0_3 a0_4 a1_0 a1_1 a1_2 a1_3 a1_4) = some r := by rw [if_neg (show ¬ (false = true) by decide)] at H; exact H
       clear H
       have H := H1
       clear H1; have H' := aK H; clear H; have hnb48 := NB159_160.out; have hnc48 := NB160_159.out; obtain ⟨hcz49_0, hcz49_1, hcz49_2, hcz49_3, hcz49_4⟩ := kC5 BK159.out
       go_wp2_with (first | ((with_reducible refine gate_callee (f := 37) rfl ?_); refine gO 36 Tryz.func37 #[.agg #[.int .i64 a0_0, .string a0_1, .string a0_2, .int .i64 a0_3, .int .i64 a0_4], .int .i64 x5_2] ?_; (with_reducible refine (check_In.calls k2 a0_0 a0_1 a0_2 a0_3 a0_4 x5_2 false _ A23.out).mono ?_); rintro e w50 ⟨rfl, hb⟩; refine ⟨_, rfl, ?_⟩; replace BK159 := aK (kBe (g := gb159) (o := .cells #[.int .i64 a0_0, .string a0_1, .string a0_2, .int .i64 a0_3, .int .i64 a0_4] 50 (0, 0)) (kX BK159.out) hb); replace BK160 := aK (kBe (g := gb160) (o := .cells #[.int .i64 a1_0, .string a1_1, .string a1_2, .int .i64 a1_3, .int .i64 a1_4] 50 (0, 0)) (kX BK160.out) hb); replace HB := aK (bSp (bX2 GE159.out GE160.out) hb); clear hb))
       go_roundg k2
       case measure => have := HJ2.out; have := HK2.out; omega
       case rel => exact ⟨(wrap64 (x5_2 + 1)), sX, H', ⟨by have := HJ2.out; have := HK2.out; omega⟩, ⟨kX BK159.out⟩, ⟨kX BK160.out⟩, ⟨bX2 GE159.out GE160.out⟩⟩
      subst c24
      have H1 : ((check_In.f k2 a1_0 a1_1 a1_2 a1_3 a1_4 x5_2).bind fun t164 => (if t164 = true then ((check_begins.f a0_2 a1_2).bind fun t165 => (if t165 = true then (some true) else (check_Clash.l0 k2 (wrap64 (x5_2 + 1)) a0_0 a0_1 a0_2 a0_3 a0_4 a1_0 a1_1 a1_2 a1_3 a1_4))) else (check_Clash.l0 k2 (wrap64 (x5_2 + 1)) a0_0 a0_1 a0_2 a0_3 a0_4 a1_0 a1_1 a1_2 a1_3 a1_4))) = some r := by rw [if_pos rfl] at H; exact H
      clear H
      have H := H1
      clear H1; obtain ⟨t164, A25, H⟩ := oC H
      try dsimp only at H
      by_cases c26 : t164 = true
      rotate_left
      ·
       replace c26 := Bool.eq_false_iff.mpr c26; subst c26
       have H1 : (check_Clash.l0 k2 (wrap64 (x5_2 + 1)) a0_0 a0_1 a0_2 a0_3 a0_4 a1_0 a1_1 a1_2 a1_3 a1_4) = some r := by rw [if_neg (show ¬ (false = true) by decide)] at H; exact H
       clear H
       have H := H1
       clear H1; have H' := aK H; clear H; have hnb43 := NB159_160.out; have hnc43 := NB160_159.out; obtain ⟨hcz44_0, hcz44_1, hcz44_2, hcz44_3, hcz44_4⟩ := kC5 BK159.out
       go_wp2_with (first | ((with_reducible refine gate_callee (f := 37) rfl ?_); refine gO 36 Tryz.func37 #[.agg #[.int .i64 a0_0, .string a0_1, .string a0_2, .int .i64 a0_3, .int .i64 a0_4], .int .i64 x5_2] ?_; (with_reducible refine (check_In.calls k2 a0_0 a0_1 a0_2 a0_3 a0_4 x5_2 true _ A23.out).mono ?_); rintro e w45 ⟨rfl, hb⟩; refine ⟨_, rfl, ?_⟩; replace BK159 := aK (kBe (g := gb159) (o := .cells #[.int .i64 a0_0, .string a0_1, .string a0_2, .int .i64 a0_3, .int .i64 a0_4] 50 (0, 0)) (kX BK159.out) hb); replace BK160 := aK (kBe (g := gb160) (o := .cells #[.int .i64 a1_0, .string a1_1, .string a1_2, .int .i64 a1_3, .int .i64 a1_4] 50 (0, 0)) (kX BK160.out) hb); replace HB := aK (bSp (bX2 GE159.out GE160.out) hb); clear hb; have hcz46_0 : w45.cell? ⟨gb160, 0, none⟩ = some (.int .i64 a1_0) := (kCe BK160.out 0).trans rfl; have hcz46_1 : w45.cell? ⟨gb160, 1, none⟩ = some (.string a1_1) := (kCe BK160.out 1).trans rfl; have hcz46_2 : w45.cell? ⟨gb160, 2, none⟩ = some (.string a1_2) := (kCe BK160.out 2).trans rfl; have hcz46_3 : w45.cell? ⟨gb160, 3, none⟩ = some (.int .i64 a1_3) := (kCe BK160.out 3).trans rfl; have hcz46_4 : w45.cell? ⟨gb160, 4, none⟩ = some (.int .i64 a1_4) := (kCe BK160.out 4).trans rfl) | (go_at_call 37; (with_reducible refine (check_In.calls k2 a1_0 a1_1 a1_2 a1_3 a1_4 x5_2 false _ A25.out).mono ?_); rintro e w47 ⟨rfl, hb⟩; replace BK159 := aK (kBe (g := gb159) (o := .cells #[.int .i64 a0_0, .string a0_1, .string a0_2, .int .i64 a0_3, .int .i64 a0_4] 50 (0, 0)) (kX BK159.out) hb); replace BK160 := aK (kBe (g := gb160) (o := .cells #[.int .i64 a1_0, .string a1_1, .string a1_2, .int .i64 a1_3, .int .i64 a1_4] 50 (0, 0)) (kX BK160.out) hb); replace HB := aK (bSp (bX2 GE159.out GE160.out) hb); clear hb))
       go_roundg k2
       case measure => have := HJ2.out; have := HK2.out; omega
       case rel => exact ⟨(wrap64 (x5_2 + 1)), sX, H', ⟨by have := HJ2.out; have := HK2.out; omega⟩, ⟨kX BK159.out⟩, ⟨kX BK160.out⟩, ⟨bX2 GE159.out GE160.out⟩⟩
      subst c26
      have H1 : ((check_begins.f a0_2 a1_2).bind fun t165 => (if t165 = true then (some true) else (check_Clash.l0 k2 (wrap64 (x5_2 + 1)) a0_0 a0_1 a0_2 a0_3 a0_4 a1_0 a1_1 a1_2 a1_3 a1_4))) = some r := by rw [if_pos rfl] at H; exact H
      clear H
      have H := H1
      clear H1; obtain ⟨t165, A27, H⟩ := oC H
      try dsimp only at H
      by_cases c28 : t165 = true
      rotate_left
      ·
       replace c28 := Bool.eq_false_iff.mpr c28; subst c28
       have H1 : (check_Clash.l0 k2 (wrap64 (x5_2 + 1)) a0_0 a0_1 a0_2 a0_3 a0_4 a1_0 a1_1 a1_2 a1_3 a1_4) = some r := by rw [if_neg (show ¬ (false = true) by decide)] at H; exact H
       clear H
       have H := H1
       clear H1; have H' := aK H; clear H; have hnb36 := NB159_160.out; have hnc36 := NB160_159.out; obtain ⟨hcz37_0, hcz37_1, hcz37_2, hcz37_3, hcz37_4⟩ := kC5 BK159.out
       go_wp2_with (first | ((with_reducible refine gate_callee (f := 37) rfl ?_); refine gO 36 Tryz.func37 #[.agg #[.int .i64 a0_0, .string a0_1, .string a0_2, .int .i64 a0_3, .int .i64 a0_4], .int .i64 x5_2] ?_; (with_reducible refine (check_In.calls k2 a0_0 a0_1 a0_2 a0_3 a0_4 x5_2 true _ A23.out).mono ?_); rintro e w38 ⟨rfl, hb⟩; refine ⟨_, rfl, ?_⟩; replace BK159 := aK (kBe (g := gb159) (o := .cells #[.int .i64 a0_0, .string a0_1, .string a0_2, .int .i64 a0_3, .int .i64 a0_4] 50 (0, 0)) (kX BK159.out) hb); replace BK160 := aK (kBe (g := gb160) (o := .cells #[.int .i64 a1_0, .string a1_1, .string a1_2, .int .i64 a1_3, .int .i64 a1_4] 50 (0, 0)) (kX BK160.out) hb); replace HB := aK (bSp (bX2 GE159.out GE160.out) hb); clear hb; have hcz39_0 : w38.cell? ⟨gb160, 0, none⟩ = some (.int .i64 a1_0) := (kCe BK160.out 0).trans rfl; have hcz39_1 : w38.cell? ⟨gb160, 1, none⟩ = some (.string a1_1) := (kCe BK160.out 1).trans rfl; have hcz39_2 : w38.cell? ⟨gb160, 2, none⟩ = some (.string a1_2) := (kCe BK160.out 2).trans rfl; have hcz39_3 : w38.cell? ⟨gb160, 3, none⟩ = some (.int .i64 a1_3) := (kCe BK160.out 3).trans rfl; have hcz39_4 : w38.cell? ⟨gb160, 4, none⟩ = some (.int .i64 a1_4) := (kCe BK160.out 4).trans rfl) | (go_at_call 37; (with_reducible refine (check_In.calls k2 a1_0 a1_1 a1_2 a1_3 a1_4 x5_2 true _ A25.out).mono ?_); rintro e w40 ⟨rfl, hb⟩; replace BK159 := aK (kBe (g := gb159) (o := .cells #[.int .i64 a0_0, .string a0_1, .string a0_2, .int .i64 a0_3, .int .i64 a0_4] 50 (0, 0)) (kX BK159.out) hb); replace BK160 := aK (kBe (g := gb160) (o := .cells #[.int .i64 a1_0, .string a1_1, .string a1_2, .int .i64 a1_3, .int .i64 a1_4] 50 (0, 0)) (kX BK160.out) hb); replace HB := aK (bSp (bX2 GE159.out GE160.out) hb); clear hb; have hcz41_0 : w40.cell? ⟨gb159, 0, none⟩ = some (.int .i64 a0_0) := (kCe BK159.out 0).trans rfl; have hcz41_1 : w40.cell? ⟨gb159, 1, none⟩ = some (.string a0_1) := (kCe BK159.out 1).trans rfl; have hcz41_2 : w40.cell? ⟨gb159, 2, none⟩ = some (.string a0_2) := (kCe BK159.out 2).trans rfl; have hcz41_3 : w40.cell? ⟨gb159, 3, none⟩ = some (.int .i64 a0_3) := (kCe BK159.out 3).trans rfl; have hcz41_4 : w40.cell? ⟨gb159, 4, none⟩ = some (.int .i64 a0_4) := (kCe BK159.out 4).trans rfl; have hcz42_0 : w40.cell? ⟨gb160, 0, none⟩ = some (.int .i64 a1_0) := (kCe BK160.out 0).trans rfl; have hcz42_1 : w40.cell? ⟨gb160, 1, none⟩ = some (.string a1_1) := (kCe BK160.out 1).trans rfl; have hcz42_2 : w40.cell? ⟨gb160, 2, none⟩ = some (.string a1_2) := (kCe BK160.out 2).trans rfl; have hcz42_3 : w40.cell? ⟨gb160, 3, none⟩ = some (.int .i64 a1_3) := (kCe BK160.out 3).trans rfl; have hcz42_4 : w40.cell? ⟨gb160, 4, none⟩ = some (.int .i64 a1_4) := (kCe BK160.out 4).trans rfl) | (go_at_call 109; (with_reducible refine (check_begins.calls a0_2 a1_2 false _ A27.out).mono ?_); rintro e w' ⟨rfl, ⟨nd, rfl⟩⟩))
       go_roundg k2
       case measure => have := HJ2.out; have := HK2.out; omega
       case rel => exact ⟨(wrap64 (x5_2 + 1)), sX, H', ⟨by have := HJ2.out; have := HK2.out; omega⟩, ⟨kX BK159.out⟩, ⟨kX BK160.out⟩, ⟨bX2 GE159.out GE160.out⟩⟩
      subst c28
      have H1 : (some true) = some r := by rw [if_pos rfl] at H; exact H
      clear H
      have H := H1
      clear H1; obtain rfl := oI H; have hnb29 := NB159_160.out; have hnc29 := NB160_159.out; obtain ⟨hcz30_0, hcz30_1, hcz30_2, hcz30_3, hcz30_4⟩ := kC5 BK159.out
      go_wp2_with (first | ((with_reducible refine gate_callee (f := 37) rfl ?_); refine gO 36 Tryz.func37 #[.agg #[.int .i64 a0_0, .string a0_1, .string a0_2, .int .i64 a0_3, .int .i64 a0_4], .int .i64 x5_2] ?_; (with_reducible refine (check_In.calls k2 a0_0 a0_1 a0_2 a0_3 a0_4 x5_2 true _ A23.out).mono ?_); rintro e w31 ⟨rfl, hb⟩; refine ⟨_, rfl, ?_⟩; replace BK159 := aK (kBe (g := gb159) (o := .cells #[.int .i64 a0_0, .string a0_1, .string a0_2, .int .i64 a0_3, .int .i64 a0_4] 50 (0, 0)) (kX BK159.out) hb); replace BK160 := aK (kBe (g := gb160) (o := .cells #[.int .i64 a1_0, .string a1_1, .string a1_2, .int .i64 a1_3, .int .i64 a1_4] 50 (0, 0)) (kX BK160.out) hb); replace HB := aK (bSp (bX2 GE159.out GE160.out) hb); clear hb; have hcz32_0 : w31.cell? ⟨gb160, 0, none⟩ = some (.int .i64 a1_0) := (kCe BK160.out 0).trans rfl; have hcz32_1 : w31.cell? ⟨gb160, 1, none⟩ = some (.string a1_1) := (kCe BK160.out 1).trans rfl; have hcz32_2 : w31.cell? ⟨gb160, 2, none⟩ = some (.string a1_2) := (kCe BK160.out 2).trans rfl; have hcz32_3 : w31.cell? ⟨gb160, 3, none⟩ = some (.int .i64 a1_3) := (kCe BK160.out 3).trans rfl; have hcz32_4 : w31.cell? ⟨gb160, 4, none⟩ = some (.int .i64 a1_4) := (kCe BK160.out 4).trans rfl) | (go_at_call 37; (with_reducible refine (check_In.calls k2 a1_0 a1_1 a1_2 a1_3 a1_4 x5_2 true _ A25.out).mono ?_); rintro e w33 ⟨rfl, hb⟩; replace BK159 := aK (kBe (g := gb159) (o := .cells #[.int .i64 a0_0, .string a0_1, .string a0_2, .int .i64 a0_3, .int .i64 a0_4] 50 (0, 0)) (kX BK159.out) hb); replace BK160 := aK (kBe (g := gb160) (o := .cells #[.int .i64 a1_0, .string a1_1, .string a1_2, .int .i64 a1_3, .int .i64 a1_4] 50 (0, 0)) (kX BK160.out) hb); replace HB := aK (bSp (bX2 GE159.out GE160.out) hb); clear hb; have hcz34_0 : w33.cell? ⟨gb159, 0, none⟩ = some (.int .i64 a0_0) := (kCe BK159.out 0).trans rfl; have hcz34_1 : w33.cell? ⟨gb159, 1, none⟩ = some (.string a0_1) := (kCe BK159.out 1).trans rfl; have hcz34_2 : w33.cell? ⟨gb159, 2, none⟩ = some (.string a0_2) := (kCe BK159.out 2).trans rfl; have hcz34_3 : w33.cell? ⟨gb159, 3, none⟩ = some (.int .i64 a0_3) := (kCe BK159.out 3).trans rfl; have hcz34_4 : w33.cell? ⟨gb159, 4, none⟩ = some (.int .i64 a0_4) := (kCe BK159.out 4).trans rfl; have hcz35_0 : w33.cell? ⟨gb160, 0, none⟩ = some (.int .i64 a1_0) := (kCe BK160.out 0).trans rfl; have hcz35_1 : w33.cell? ⟨gb160, 1, none⟩ = some (.string a1_1) := (kCe BK160.out 1).trans rfl; have hcz35_2 : w33.cell? ⟨gb160, 2, none⟩ = some (.string a1_2) := (kCe BK160.out 2).trans rfl; have hcz35_3 : w33.cell? ⟨gb160, 3, none⟩ = some (.int .i64 a1_3) := (kCe BK160.out 3).trans rfl; have hcz35_4 : w33.cell? ⟨gb160, 4, none⟩ = some (.int .i64 a1_4) := (kCe BK160.out 4).trans rfl) | (go_at_call 109; (with_reducible refine (check_begins.calls a0_2 a1_2 true _ A27.out).mono ?_); rintro e w' ⟨rfl, ⟨nd, rfl⟩⟩))
      go_ret
      exact ⟨eX, bX2 GE159.out GE160.out⟩
   subst c21
   have H1 : (some true) = some r := by rw [if_pos rfl] at H; exact H
   clear H
   have H := H1
   clear H1; obtain rfl := oI H
   go_wp2
   go_ret
   exact ⟨eX, bX2 GE159.out GE160.out⟩
def r9_Kept.f (a0_0 : Int) (a0_1 : ByteArray) (a0_2 : ByteArray) (a0_3 : Int) (a0_4 : Int) : Option (Bool) := if a0_0 = 8 then (if a0_1.toList = ([98, 108, 107] : List UInt8) then (some true) else (if a0_1.toList = ([99, 111, 110, 116] : List UInt8) then (some true) else (some (a0_1.toList == ([105, 110, 100] : List UInt8))))) else (some false)
def r1_Marks.f  : Option (ByteArray) := some (⟨#[46, 44, 59, 58, 33, 63, 39, 34, 45, 40, 41, 47]⟩ : ByteArray)
theorem r1_Marks.calls  (r : ByteArray) (w : World) (h : r1_Marks.f  = some r) :
  Calls Tryz.prog 73 #[] w fun e w' => e = .returned (.string r) ∧ Drawn0 w w' := by
 have H : (some (⟨#[46, 44, 59, 58, 33, 63, 39, 34, 45, 40, 41, 47]⟩ : ByteArray)) = some r := h
 clear h
 obtain rfl := oI H
 go_enter Tryz.func73, Tryz.ntmps73
 go_wp2
 go_ret
 exact ⟨sX, dX⟩
end Go.Proofs.YtbpbniemjjhecaaGreat.PChk
end
section
namespace Go.Proofs.YtbpbniemjjhecaaGreat.G
open Go.RowKit Go.Shelf Go.Proofs.YtbpbniemjjhecaaGreat.PChk Go.Proofs.YtbpbniemjjhecaaGreatW.PrintWords Go.Proofs.YtbpbniemjjhecaaGreatW.PrintLast Go.Proofs.YtbpbniemjjhecaaGreatW.PrintMore
abbrev Rl := S50
def cellsOf (x : Rl) : Array Value := #[.int .i64 x.f0, .string x.f1, .string x.f2, .int .i64 x.f3, .int .i64 x.f4]
def idxF (p : Rl → Bool) : List Rl → Int → Int
 | [], _ => -1
 | x :: l, i => if p x = true then i else idxF p l (i + 1)
theorem idxF_any (p : Rl → Bool) : ∀ (l : List Rl) (i : Int), 0 ≤ i → decide (idxF p l i ≥ 0) = l.any p
 | [], i, _ => rfl
 | x :: l, i, h => by
  rw [idxF, List.any_cons]
  cases hx : p x with
  | true => rw [if_pos rfl, decide_eq_true h]; rfl
  | false => rw [if_neg (by decide), idxF_any p l (i + 1) (by omega)]; rfl
set_option maxHeartbeats 800000 in
set_option maxRecDepth 100000 in
theorem index_func (g : Nat) (lb : Array Value) (eg : Enters Tryz.prog g) (p : Rl → Bool) (A0 : Option Addr) (c0 : Nat) (l0 : List Rl) (w : World) (hr0 : Kd.C k50 w A0 l0.length l0) (hl : l0.length ≤ 140737488351232)
  (hp : ∀ x ∈ l0, ∀ W, Below w.heap.size w W → Calls Tryz.prog g (#[.agg (cellsOf x)] ++ lb) W fun e W' => e = .returned (.bool (p x)) ∧ Below W.heap.size W W') :
  Calls Tryz.prog 108 #[.slice A0 l0.length c0, .func (.func g) #[] lb] w fun e w' => e = .returned (.int .i64 (idxF p l0 0)) ∧ Below w.heap.size w w' := by
 have HP := Lib.hid hp
 have HR := Lib.hid hr0
 clear hp hr0
 unfold Enters at eg
 go_enter Tryz.func108, Tryz.ntmps108
 go_wp2
 go_loopw [8] (fun i wr => ∃ x : Int, i = .int .i64 x ∧ 0 ≤ x ∧ x ≤ l0.length ∧ Hid (idxF p (l0.drop x.toNat) x = idxF p l0 0) ∧ Below w.heap.size w wr) (fun i _ => l0.length - (intOf i).toNat)
 case atStart => exact ⟨0, rfl, Int.le_refl _, by omega, Lib.hid rfl, Below.refl _ _⟩
 case round =>
  obtain ⟨x, rfl, hx0, hx1, HI, HB⟩ := hrel
  by_cases hlt : x < (l0.length : Int)
  ·
   obtain ⟨y, hy⟩ : ∃ y, l0[x.toNat]? = some y := ⟨l0[x.toNat]'(by omega), List.getElem?_eq_getElem _⟩
   have hrd : rd_T50 l0 x = y := by simp [rd_T50, hy]
   have HD := Lib.hid (show l0.drop x.toNat = y :: l0.drop (x + 1).toNat from by
    rw [show (x + 1).toNat = x.toNat + 1 from by omega]
    obtain ⟨h1, h2⟩ := List.getElem?_eq_some_iff.1 hy
    rw [← h2]
    exact List.drop_eq_getElem_cons h1)
   obtain ⟨ad, e, g0, g1, g2, g3, g4⟩ := at_T50 HR.out x hx0 hlt
   rw [hrd] at g0 g1 g2 g3 g4
   cases e
   replace g0 := (HB.cell (World.block_lt_of_cell? w _ g0)).trans g0
   replace g1 := (HB.cell (World.block_lt_of_cell? w _ g1)).trans g1
   replace g2 := (HB.cell (World.block_lt_of_cell? w _ g2)).trans g2
   replace g3 := (HB.cell (World.block_lt_of_cell? w _ g3)).trans g3
   replace g4 := (HB.cell (World.block_lt_of_cell? w _ g4)).trans g4
   have hq := HP.out y (List.mem_of_getElem? hy) wr HB
   unfold cellsOf at hq
   have hm1 : x + 1 ≤ (l0.length : Int) := by omega
   have hwr : wrap64 (x + 1) = x + 1 := by unfold wrap64; omega
   clear hrd hy
   go_wp2_with fail
   refine hq.mono ?_
   rintro e w2 ⟨rfl, b2⟩
   have hB2 := below_then HB HB.size b2
   cases hpy : p y with
   | true =>
    go_wp2
    go_ret
    have h := HI.out
    rw [HD.out, idxF, if_pos hpy] at h
    exact ⟨by rw [← h]; rfl, hB2⟩
   | false =>
    go_wp2
    go_roundw
    case rel => exact ⟨x + 1, by first | rfl | (rw [hwr]), by omega, hm1, Lib.hid (by have h := HI.out; rw [HD.out, idxF, if_neg (by rw [hpy]; decide)] at h; exact h), hB2⟩
    case measure => simp [intOf]; omega
  ·
   have hd : l0.drop x.toNat = [] := List.drop_of_length_le (by omega)
   have h := HI.out
   rw [hd, idxF] at h
   go_wp2
   go_ret
   exact ⟨by rw [← h]; rfl, HB⟩
set_option maxHeartbeats 800000 in
theorem contains_func (g : Nat) (lb : Array Value) (eg : Enters Tryz.prog g) (p : Rl → Bool) (A0 : Option Addr) (c0 : Nat) (l0 : List Rl) (w : World) (hr0 : Kd.C k50 w A0 l0.length l0) (hl : l0.length ≤ 140737488351232)
  (hp : ∀ x ∈ l0, ∀ W, Below w.heap.size w W → Calls Tryz.prog g (#[.agg (cellsOf x)] ++ lb) W fun e W' => e = .returned (.bool (p x)) ∧ Below W.heap.size W W') :
  Calls Tryz.prog 76 #[.slice A0 l0.length c0, .func (.func g) #[] lb] w fun e w' => e = .returned (.bool (l0.any p)) ∧ Below w.heap.size w w' := by
 have hm := index_func g lb eg p A0 c0 l0 w hr0 hl hp
 have hR := Lib.hid (idxF_any p l0 0 (Int.le_refl _))
 clear hp
 generalize idxF p l0 0 = k at hm hR
 generalize l0.any p = b at hR
 go_enter Tryz.func76, Tryz.ntmps76
 go_wp2_with fail
 go_at_call 108
 refine hm.mono ?_
 rintro e w1 ⟨rfl, b1⟩
 go_wp2
 go_ret
 exact ⟨by rw [← hR.out]; rfl, b1⟩
theorem missing_closure (x y : Rl) (B : Nat) (W : World) (hB : B < W.heap.size) (h0 : W.cell? ⟨B, 0, none⟩ = some (.int .i64 y.f0)) (h1 : W.cell? ⟨B, 1, none⟩ = some (.string y.f1)) :
  Calls Tryz.prog 112 (#[.agg (cellsOf x)] ++ #[.pointer (some ⟨B, 0, none⟩)]) W fun e W' => e = .returned (.bool (x.f0 == y.f0 && x.f1.toList == y.f1.toList)) ∧ Below W.heap.size W W' := by
 have hne : B ≠ W.heap.size := by omega
 show Calls Tryz.prog 112 #[.agg #[.int .i64 x.f0, .string x.f1, .string x.f2, .int .i64 x.f3, .int .i64 x.f4], .pointer (some ⟨B, 0, none⟩)] W _
 cases c0 : x.f0 == y.f0 with
 | true =>
  go_enter Tryz.func112, Tryz.ntmps112
  go_wp2
  go_ret
  exact ⟨rfl, (Below.refl _ _).alloc (Nat.le_refl _) _⟩
 | false =>
  go_enter Tryz.func112, Tryz.ntmps112
  go_wp2
  go_ret
  exact ⟨rfl, (Below.refl _ _).alloc (Nat.le_refl _) _⟩
end Go.Proofs.YtbpbniemjjhecaaGreat.G
end
