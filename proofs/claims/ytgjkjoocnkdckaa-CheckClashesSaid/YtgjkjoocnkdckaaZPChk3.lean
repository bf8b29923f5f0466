-- Written by a program of this session (prt.py), out of the translation. Lean checks it.
import Derived.Test.YtgjkjoocnkdckaaZPChk0
import Derived.Test.YtgjkjoocnkdckaaZPChk2
namespace Go.Proofs.Ytgjkjoocnkdckaa.PChk
open Go.RowKit Go.Proofs.Ytgjkjoocnkdckaa.G Go.Proofs.YtgjkjoocnkdckaaW.PrintWords Go.Proofs.YtgjkjoocnkdckaaW.PrintLast Go.Proofs.YtgjkjoocnkdckaaW.PrintMore
attribute [local go_sem] max2_int min2_int max_two min_two max_three min_three max_four min_four   -- for this text's walks alone
set_option linter.unusedVariables false
set_option linter.unusedSimpArgs false
mutual
def check_Clash.j0 : Nat → Bool → Int → ByteArray → ByteArray → Int → Int → Int → ByteArray → ByteArray → Int → Int → Option (Bool)
 | 0, _, _, _, _, _, _, _, _, _, _, _ => none
 | k + 1, x29, x128000, x128001, x128002, x128003, x128004, x129000, x129001, x129002, x129003, x129004 => if x29 = true then (some true) else (check_Clash.l0 k 1 x128000 x128001 x128002 x128003 x128004 x129000 x129001 x129002 x129003 x129004)
def check_Clash.l0 : Nat → Int → Int → ByteArray → ByteArray → Int → Int → Int → ByteArray → ByteArray → Int → Int → Option (Bool)
 | 0, _, _, _, _, _, _, _, _, _, _, _ => none
 | k + 1, x5, x128000, x128001, x128002, x128003, x128004, x129000, x129001, x129002, x129003, x129004 => if x5 ≤ 3 then ((check_In.f k x128000 x128001 x128002 x128003 x128004 x5).bind fun t131 => (if t131 = true then ((check_In.f k x129000 x129001 x129002 x129003 x129004 x5).bind fun t132 => (if t132 = true then ((check_begins.f x128002 x129002).bind fun t133 => (if t133 = true then (some true) else (check_Clash.l0 k (wrap64 (x5 + 1)) x128000 x128001 x128002 x128003 x128004 x129000 x129001 x129002 x129003 x129004))) else (check_Clash.l0 k (wrap64 (x5 + 1)) x128000 x128001 x128002 x128003 x128004 x129000 x129001 x129002 x129003 x129004))) else (check_Clash.l0 k (wrap64 (x5 + 1)) x128000 x128001 x128002 x128003 x128004 x129000 x129001 x129002 x129003 x129004))) else ((check_spoils.f k x128000 x128001 x128002 x128003 x128004 x129000 x129001 x129002 x129003 x129004).bind fun t129 => (if t129 = true then (some true) else ((check_spoils.f k x129000 x129001 x129002 x129003 x129004 x128000 x128001 x128002 x128003 x128004).bind fun t130 => (some t130))))
end
def check_Clash.f (k : Nat) (a0_0 : Int) (a0_1 : ByteArray) (a0_2 : ByteArray) (a0_3 : Int) (a0_4 : Int) (a1_0 : Int) (a1_1 : ByteArray) (a1_2 : ByteArray) (a1_3 : Int) (a1_4 : Int) : Option (Bool) := if a0_0 = a1_0 then (if a0_1.toList = a1_1.toList then (check_Clash.j0 k true a0_0 a0_1 a0_2 a0_3 a0_4 a1_0 a1_1 a1_2 a1_3 a1_4) else (if a0_0 = 5 then (check_Clash.j0 k (a0_2.toList == a1_2.toList) a0_0 a0_1 a0_2 a0_3 a0_4 a1_0 a1_1 a1_2 a1_3 a1_4) else (check_Clash.j0 k false a0_0 a0_1 a0_2 a0_3 a0_4 a1_0 a1_1 a1_2 a1_3 a1_4))) else (check_Clash.j0 k false a0_0 a0_1 a0_2 a0_3 a0_4 a1_0 a1_1 a1_2 a1_3 a1_4)
theorem check_Clash.mono_l : ∀ k, (∀ y0 y1 y2 y3 y4 y5 y6 y7 y8 y9 y10, LeO (check_Clash.j0 k y0 y1 y2 y3 y4 y5 y6 y7 y8 y9 y10) (check_Clash.j0 (k + 1) y0 y1 y2 y3 y4 y5 y6 y7 y8 y9 y10)) ∧ (∀ y0 y1 y2 y3 y4 y5 y6 y7 y8 y9 y10, LeO (check_Clash.l0 k y0 y1 y2 y3 y4 y5 y6 y7 y8 y9 y10) (check_Clash.l0 (k + 1) y0 y1 y2 y3 y4 y5 y6 y7 y8 y9 y10))
 | 0 => ⟨fun _ _ _ _ _ _ _ _ _ _ _ r h => by simp [check_Clash.j0] at h, fun _ _ _ _ _ _ _ _ _ _ _ r h => by simp [check_Clash.l0] at h⟩
 | k + 1 => by
  obtain ⟨ih0, ih1⟩ := check_Clash.mono_l k
  refine ⟨?_, ?_⟩
  ·
   intro y0 y1 y2 y3 y4 y5 y6 y7 y8 y9 y10
   unfold check_Clash.j0
   repeat' first
   | (with_reducible exact ih0 _ _ _ _ _ _ _ _ _ _ _)
   | (with_reducible exact ih1 _ _ _ _ _ _ _ _ _ _ _)
   | (with_reducible exact check_In.mono _ _ _ _ _ _ _)
   | (with_reducible exact check_spoils.mono _ _ _ _ _ _ _ _ _ _ _)
   | (with_reducible exact LeO.refl _)
   | (with_reducible exact LeO.none _)
   | (with_reducible refine LeO.ite ?_ ?_)
   | (with_reducible refine LeO.bind ?_ (fun _ => ?_))
   | exact ih0 _ _ _ _ _ _ _ _ _ _ _
   | exact ih1 _ _ _ _ _ _ _ _ _ _ _
   | exact check_In.mono _ _ _ _ _ _ _
   | exact check_spoils.mono _ _ _ _ _ _ _ _ _ _ _
   | exact LeO.none _
   | refine LeO.ite ?_ ?_
   | refine LeO.bind ?_ (fun _ => ?_)
  ·
   intro y0 y1 y2 y3 y4 y5 y6 y7 y8 y9 y10
   unfold check_Clash.l0
   repeat' first
   | (with_reducible exact ih0 _ _ _ _ _ _ _ _ _ _ _)
   | (with_reducible exact ih1 _ _ _ _ _ _ _ _ _ _ _)
   | (with_reducible exact check_In.mono _ _ _ _ _ _ _)
   | (with_reducible exact check_spoils.mono _ _ _ _ _ _ _ _ _ _ _)
   | (with_reducible exact LeO.refl _)
   | (with_reducible exact LeO.none _)
   | (with_reducible refine LeO.ite ?_ ?_)
   | (with_reducible refine LeO.bind ?_ (fun _ => ?_))
   | exact ih0 _ _ _ _ _ _ _ _ _ _ _
   | exact ih1 _ _ _ _ _ _ _ _ _ _ _
   | exact check_In.mono _ _ _ _ _ _ _
   | exact check_spoils.mono _ _ _ _ _ _ _ _ _ _ _
   | exact LeO.none _
   | refine LeO.ite ?_ ?_
   | refine LeO.bind ?_ (fun _ => ?_)
theorem check_Clash.mono : ∀ a0 a1 a2 a3 a4 a5 a6 a7 a8 a9 k, LeO (check_Clash.f k a0 a1 a2 a3 a4 a5 a6 a7 a8 a9) (check_Clash.f (k + 1) a0 a1 a2 a3 a4 a5 a6 a7 a8 a9) := by
 intro a0 a1 a2 a3 a4 a5 a6 a7 a8 a9 k
 obtain ⟨ih0, ih1⟩ := check_Clash.mono_l k
 unfold check_Clash.f
 repeat' first
   | (with_reducible exact ih0 _ _ _ _ _ _ _ _ _ _ _)
   | (with_reducible exact ih1 _ _ _ _ _ _ _ _ _ _ _)
   | (with_reducible exact check_In.mono _ _ _ _ _ _ _)
   | (with_reducible exact check_spoils.mono _ _ _ _ _ _ _ _ _ _ _)
   | (with_reducible exact LeO.refl _)
   | (with_reducible exact LeO.none _)
   | (with_reducible refine LeO.ite ?_ ?_)
   | (with_reducible refine LeO.bind ?_ (fun _ => ?_))
   | exact ih0 _ _ _ _ _ _ _ _ _ _ _
   | exact ih1 _ _ _ _ _ _ _ _ _ _ _
   | exact check_In.mono _ _ _ _ _ _ _
   | exact check_spoils.mono _ _ _ _ _ _ _ _ _ _ _
   | exact LeO.none _
   | refine LeO.ite ?_ ?_
   | refine LeO.bind ?_ (fun _ => ?_)
set_option maxHeartbeats 8000000 in
set_option maxRecDepth 100000 in
theorem check_Clash.calls (k : Nat) (a0_0 : Int) (a0_1 : ByteArray) (a0_2 : ByteArray) (a0_3 : Int) (a0_4 : Int) (a1_0 : Int) (a1_1 : ByteArray) (a1_2 : ByteArray) (a1_3 : Int) (a1_4 : Int) (r : Bool) (w : World) (h : check_Clash.f k a0_0 a0_1 a0_2 a0_3 a0_4 a1_0 a1_1 a1_2 a1_3 a1_4 = some r) :
  Calls Try.prog 9 #[.agg #[.int .i64 a0_0, .string a0_1, .string a0_2, .int .i64 a0_3, .int .i64 a0_4], .agg #[.int .i64 a1_0, .string a1_1, .string a1_2, .int .i64 a1_3, .int .i64 a1_4]] w fun e w' => e = .returned (.bool r) ∧ Below w.heap.size w w' := by
 have hu23 := Try.underlying23
 have HB := aK (Below.refl w.heap.size w)
 have H : (if a0_0 = a1_0 then (if a0_1.toList = a1_1.toList then (check_Clash.j0 k true a0_0 a0_1 a0_2 a0_3 a0_4 a1_0 a1_1 a1_2 a1_3 a1_4) else (if a0_0 = 5 then (check_Clash.j0 k (a0_2.toList == a1_2.toList) a0_0 a0_1 a0_2 a0_3 a0_4 a1_0 a1_1 a1_2 a1_3 a1_4) else (check_Clash.j0 k false a0_0 a0_1 a0_2 a0_3 a0_4 a1_0 a1_1 a1_2 a1_3 a1_4))) else (check_Clash.j0 k false a0_0 a0_1 a0_2 a0_3 a0_4 a1_0 a1_1 a1_2 a1_3 a1_4)) = some r := h
 clear h
 have HC3 := aK H
 clear H
 go_enter Try.func9, Try.ntmps9
 go_upto_region 1 with (first | ((with_reducible refine gate_dst (N := 2) rfl ?_); refine box_event ?hg (N := 2) ?hd (cs := #[.int .i64 a0_0, .string a0_1, .string a0_2, .int .i64 a0_3, .int .i64 a0_4]) (t := 23) ?hr ?_; (case hd => rfl); (case hg => rfl); (case hr => first | (go_simp; done) | (go_simp; rfl)); intro gb127 hg w4 hbox hb; have n0_ := aK (bSp (by repeat (first | (with_reducible first | exact HB.out | apply bAl | apply pbD | apply bD1) | exact HB.out)) hb); have n1_ := aK (hbox); have n2_ := aK ((by rw [hg]; exact (bSz (by repeat (first | (with_reducible first | exact HB.out | apply bAl | apply pbD | apply bD1) | exact HB.out))) : w.heap.size ≤ gb127)); have n3_ := aK ((by rw [hg]; exact (bSz (by repeat (first | (with_reducible first | exact HB.out | apply bAl | apply pbD | apply bD1) | exact HB.out))) : w.heap.size ≤ gb127)); clear HB; have HB := n0_; have BK127 := n1_; have GW127 := n2_; have GE127 := n3_; clear n0_ n1_ n2_ n3_; clear hb hbox hg) | ((with_reducible refine gate_dst (N := 3) rfl ?_); refine box_event ?hg (N := 3) ?hd (cs := #[.int .i64 a1_0, .string a1_1, .string a1_2, .int .i64 a1_3, .int .i64 a1_4]) (t := 23) ?hr ?_; (case hd => rfl); (case hg => rfl); (case hr => first | (go_simp; done) | (go_simp; rfl)); intro gb128 hg w5 hbox hb; have n0_ := aK (kBe (g := gb127) (o := .cells #[.int .i64 a0_0, .string a0_1, .string a0_2, .int .i64 a0_3, .int .i64 a0_4] 23 (0, 0)) (by (with_reducible repeat (first | refine kDN ?_ _ | refine kDr ?_ | refine kAl ?_ _)); exact BK127.out) hb); have n1_ := aK (bSp (by repeat (first | (with_reducible first | exact HB.out | apply bAl | apply pbD | apply bD1 | refine bSt ?_ GE127.out) | exact HB.out)) hb); have n2_ := aK (hbox); have n3_ := aK ((by rw [hg]; exact (bSz (by repeat (first | (with_reducible first | exact HB.out | apply bAl | apply pbD | apply bD1 | refine bSt ?_ GE127.out) | exact HB.out))) : w.heap.size ≤ gb128)); have n4_ := aK ((by rw [hg]; exact (bSz (by repeat (first | (with_reducible first | exact HB.out | apply bAl | apply pbD | apply bD1 | refine bSt ?_ GE127.out) | exact HB.out))) : w.heap.size ≤ gb128)); have n5_ := aK ((by rw [hg]; exact Nat.ne_of_lt (blk_lt (g := gb127) (o := .cells #[.int .i64 a0_0, .string a0_1, .string a0_2, .int .i64 a0_3, .int .i64 a0_4] 23 (0, 0)) (by (with_reducible repeat (first | refine kDN ?_ _ | refine kDr ?_ | refine kAl ?_ _)); exact BK127.out)) : gb127 ≠ gb128)); have n6_ := aK ((by rw [hg]; exact Nat.ne_of_gt (blk_lt (g := gb127) (o := .cells #[.int .i64 a0_0, .string a0_1, .string a0_2, .int .i64 a0_3, .int .i64 a0_4] 23 (0, 0)) (by (with_reducible repeat (first | refine kDN ?_ _ | refine kDr ?_ | refine kAl ?_ _)); exact BK127.out)) : gb128 ≠ gb127)); clear BK127; clear HB; have BK127 := n0_; have HB := n1_; have BK128 := n2_; have GW128 := n3_; have GE128 := n4_; have NB127_128 := n5_; have NB128_127 := n6_; clear n0_ n1_ n2_ n3_ n4_ n5_ n6_; clear hb hbox hg))
 (try simp only [Act.put, qSa, qS0, qS1])
 go_cut [29] (fun v29 wc => ∃ (kq : Nat) (x29_2 : Bool), v29 = .bool x29_2 ∧ Aside0 (check_Clash.j0 kq x29_2 a0_0 a0_1 a0_2 a0_3 a0_4 a1_0 a1_1 a1_2 a1_3 a1_4 = some r) ∧ Aside0 (kq ≤ k) ∧ Aside0 (wc.heap[gb127]? = some (.cells #[.int .i64 a0_0, .string a0_1, .string a0_2, .int .i64 a0_3, .int .i64 a0_4] 23 (0, 0))) ∧ Aside0 (wc.heap[gb128]? = some (.cells #[.int .i64 a1_0, .string a1_1, .string a1_2, .int .i64 a1_3, .int .i64 a1_4] 23 (0, 0))) ∧ Aside0 (Below w.heap.size w wc))
 case first =>
  have H := HC3.out
  clear HC3
  by_cases c6 : a0_0 = a1_0
  ·
   rw [if_pos c6] at H
   have c6b0 : (a0_0 == a1_0) = true := beq_iff_eq.mpr c6
   have c6b1 : (a0_0 != a1_0) = false := bne_eq_false_iff_eq.mpr c6
   clear c6
   (first | rw [c6b0] | (simp only [i64_w, i32_w]; rw [c6b0]) | skip)
   by_cases c7 : a0_1.toList = a1_1.toList
   ·
    rw [if_pos c7] at H
    have c7b0 : (a0_1.toList == a1_1.toList) = true := beq_iff_eq.mpr c7
    have c7b1 : (a0_1.toList != a1_1.toList) = false := bne_eq_false_iff_eq.mpr c7
    clear c7
    have H' := aK H
    clear H
    have hnb8 := NB127_128.out
    have hnc8 := NB128_127.out
    have hcz9_0 : w5.cell? ⟨gb127, 0, none⟩ = some (.int .i64 a0_0) := (kCe BK127.out 0).trans rfl
    have hcz9_1 : w5.cell? ⟨gb127, 1, none⟩ = some (.string a0_1) := (kCe BK127.out 1).trans rfl
    have hcz9_2 : w5.cell? ⟨gb127, 2, none⟩ = some (.string a0_2) := (kCe BK127.out 2).trans rfl
    have hcz9_3 : w5.cell? ⟨gb127, 3, none⟩ = some (.int .i64 a0_3) := (kCe BK127.out 3).trans rfl
    have hcz9_4 : w5.cell? ⟨gb127, 4, none⟩ = some (.int .i64 a0_4) := (kCe BK127.out 4).trans rfl
    have hcz10_0 : w5.cell? ⟨gb128, 0, none⟩ = some (.int .i64 a1_0) := (kCe BK128.out 0).trans rfl
    have hcz10_1 : w5.cell? ⟨gb128, 1, none⟩ = some (.string a1_1) := (kCe BK128.out 1).trans rfl
    have hcz10_2 : w5.cell? ⟨gb128, 2, none⟩ = some (.string a1_2) := (kCe BK128.out 2).trans rfl
    have hcz10_3 : w5.cell? ⟨gb128, 3, none⟩ = some (.int .i64 a1_3) := (kCe BK128.out 3).trans rfl
    have hcz10_4 : w5.cell? ⟨gb128, 4, none⟩ = some (.int .i64 a1_4) := (kCe BK128.out 4).trans rfl
    go_wp2
    go_meet
    case rel => exact ⟨_, (true), (by first | rfl | (simp; done) | (simp [*]; done)), H', ⟨by first | omega | exact Nat.le_refl _⟩, ⟨by (with_reducible repeat (first | refine kDN ?_ _ | refine kDr ?_ | refine kAl ?_ _)); exact BK127.out⟩, ⟨by (with_reducible repeat (first | refine kDN ?_ _ | refine kDr ?_ | refine kAl ?_ _)); exact BK128.out⟩, ⟨by repeat (first | (with_reducible first | exact HB.out | apply bAl | apply pbD | apply bD1 | refine bSt ?_ GE127.out | refine bSt ?_ GE128.out) | exact HB.out)⟩⟩
   ·
    rw [if_neg c7] at H
    have c7b0 : (a0_1.toList == a1_1.toList) = false := beq_eq_false_iff_ne.mpr c7
    have c7b1 : (a0_1.toList != a1_1.toList) = true := bne_iff_ne.mpr c7
    by_cases c11 : a0_0 = 5
    ·
     rw [if_pos c11] at H
     have c11b0 : (a0_0 == 5) = true := beq_iff_eq.mpr c11
     have c11b1 : (a0_0 != 5) = false := bne_eq_false_iff_eq.mpr c11
     clear c11
     have H' := aK H
     clear H
     have hnb12 := NB127_128.out
     have hnc12 := NB128_127.out
     have hcz13_0 : w5.cell? ⟨gb127, 0, none⟩ = some (.int .i64 a0_0) := (kCe BK127.out 0).trans rfl
     have hcz13_1 : w5.cell? ⟨gb127, 1, none⟩ = some (.string a0_1) := (kCe BK127.out 1).trans rfl
     have hcz13_2 : w5.cell? ⟨gb127, 2, none⟩ = some (.string a0_2) := (kCe BK127.out 2).trans rfl
     have hcz13_3 : w5.cell? ⟨gb127, 3, none⟩ = some (.int .i64 a0_3) := (kCe BK127.out 3).trans rfl
     have hcz13_4 : w5.cell? ⟨gb127, 4, none⟩ = some (.int .i64 a0_4) := (kCe BK127.out 4).trans rfl
     have hcz14_0 : w5.cell? ⟨gb128, 0, none⟩ = some (.int .i64 a1_0) := (kCe BK128.out 0).trans rfl
     have hcz14_1 : w5.cell? ⟨gb128, 1, none⟩ = some (.string a1_1) := (kCe BK128.out 1).trans rfl
     have hcz14_2 : w5.cell? ⟨gb128, 2, none⟩ = some (.string a1_2) := (kCe BK128.out 2).trans rfl
     have hcz14_3 : w5.cell? ⟨gb128, 3, none⟩ = some (.int .i64 a1_3) := (kCe BK128.out 3).trans rfl
     have hcz14_4 : w5.cell? ⟨gb128, 4, none⟩ = some (.int .i64 a1_4) := (kCe BK128.out 4).trans rfl
     go_wp2
     go_meet
     case rel => exact ⟨_, ((a0_2.toList == a1_2.toList)), (by first | rfl | (simp; done) | (simp [*]; done)), H', ⟨by first | omega | exact Nat.le_refl _⟩, ⟨by (with_reducible repeat (first | refine kDN ?_ _ | refine kDr ?_ | refine kAl ?_ _)); exact BK127.out⟩, ⟨by (with_reducible repeat (first | refine kDN ?_ _ | refine kDr ?_ | refine kAl ?_ _)); exact BK128.out⟩, ⟨by repeat (first | (with_reducible first | exact HB.out | apply bAl | apply pbD | apply bD1 | refine bSt ?_ GE127.out | refine bSt ?_ GE128.out) | exact HB.out)⟩⟩
    ·
     rw [if_neg c11] at H
     have c11b0 : (a0_0 == 5) = false := beq_eq_false_iff_ne.mpr c11
     have c11b1 : (a0_0 != 5) = true := bne_iff_ne.mpr c11
     have H' := aK H
     clear H
     have hnb15 := NB127_128.out
     have hnc15 := NB128_127.out
     have hcz16_0 : w5.cell? ⟨gb127, 0, none⟩ = some (.int .i64 a0_0) := (kCe BK127.out 0).trans rfl
     have hcz16_1 : w5.cell? ⟨gb127, 1, none⟩ = some (.string a0_1) := (kCe BK127.out 1).trans rfl
     have hcz16_2 : w5.cell? ⟨gb127, 2, none⟩ = some (.string a0_2) := (kCe BK127.out 2).trans rfl
     have hcz16_3 : w5.cell? ⟨gb127, 3, none⟩ = some (.int .i64 a0_3) := (kCe BK127.out 3).trans rfl
     have hcz16_4 : w5.cell? ⟨gb127, 4, none⟩ = some (.int .i64 a0_4) := (kCe BK127.out 4).trans rfl
     have hcz17_0 : w5.cell? ⟨gb128, 0, none⟩ = some (.int .i64 a1_0) := (kCe BK128.out 0).trans rfl
     have hcz17_1 : w5.cell? ⟨gb128, 1, none⟩ = some (.string a1_1) := (kCe BK128.out 1).trans rfl
     have hcz17_2 : w5.cell? ⟨gb128, 2, none⟩ = some (.string a1_2) := (kCe BK128.out 2).trans rfl
     have hcz17_3 : w5.cell? ⟨gb128, 3, none⟩ = some (.int .i64 a1_3) := (kCe BK128.out 3).trans rfl
     have hcz17_4 : w5.cell? ⟨gb128, 4, none⟩ = some (.int .i64 a1_4) := (kCe BK128.out 4).trans rfl
     go_wp2
     go_meet
     case rel => exact ⟨_, (false), (by first | rfl | (simp; done) | (simp [*]; done)), H', ⟨by first | omega | exact Nat.le_refl _⟩, ⟨by (with_reducible repeat (first | refine kDN ?_ _ | refine kDr ?_ | refine kAl ?_ _)); exact BK127.out⟩, ⟨by (with_reducible repeat (first | refine kDN ?_ _ | refine kDr ?_ | refine kAl ?_ _)); exact BK128.out⟩, ⟨by repeat (first | (with_reducible first | exact HB.out | apply bAl | apply pbD | apply bD1 | refine bSt ?_ GE127.out | refine bSt ?_ GE128.out) | exact HB.out)⟩⟩
  ·
   rw [if_neg c6] at H
   have c6b0 : (a0_0 == a1_0) = false := beq_eq_false_iff_ne.mpr c6
   have c6b1 : (a0_0 != a1_0) = true := bne_iff_ne.mpr c6
   (first | rw [c6b0] | (simp only [i64_w, i32_w]; rw [c6b0]) | skip)
   have H' := aK H
   clear H
   have hnb18 := NB127_128.out
   have hnc18 := NB128_127.out
   have hcz19_0 : w5.cell? ⟨gb127, 0, none⟩ = some (.int .i64 a0_0) := (kCe BK127.out 0).trans rfl
   have hcz19_1 : w5.cell? ⟨gb127, 1, none⟩ = some (.string a0_1) := (kCe BK127.out 1).trans rfl
   have hcz19_2 : w5.cell? ⟨gb127, 2, none⟩ = some (.string a0_2) := (kCe BK127.out 2).trans rfl
   have hcz19_3 : w5.cell? ⟨gb127, 3, none⟩ = some (.int .i64 a0_3) := (kCe BK127.out 3).trans rfl
   have hcz19_4 : w5.cell? ⟨gb127, 4, none⟩ = some (.int .i64 a0_4) := (kCe BK127.out 4).trans rfl
   have hcz20_0 : w5.cell? ⟨gb128, 0, none⟩ = some (.int .i64 a1_0) := (kCe BK128.out 0).trans rfl
   have hcz20_1 : w5.cell? ⟨gb128, 1, none⟩ = some (.string a1_1) := (kCe BK128.out 1).trans rfl
   have hcz20_2 : w5.cell? ⟨gb128, 2, none⟩ = some (.string a1_2) := (kCe BK128.out 2).trans rfl
   have hcz20_3 : w5.cell? ⟨gb128, 3, none⟩ = some (.int .i64 a1_3) := (kCe BK128.out 3).trans rfl
   have hcz20_4 : w5.cell? ⟨gb128, 4, none⟩ = some (.int .i64 a1_4) := (kCe BK128.out 4).trans rfl
   go_wp2
   go_meet
   case rel => exact ⟨_, (false), (by first | rfl | (simp; done) | (simp [*]; done)), H', ⟨by first | omega | exact Nat.le_refl _⟩, ⟨by (with_reducible repeat (first | refine kDN ?_ _ | refine kDr ?_ | refine kAl ?_ _)); exact BK127.out⟩, ⟨by (with_reducible repeat (first | refine kDN ?_ _ | refine kDr ?_ | refine kAl ?_ _)); exact BK128.out⟩, ⟨by repeat (first | (with_reducible first | exact HB.out | apply bAl | apply pbD | apply bD1 | refine bSt ?_ GE127.out | refine bSt ?_ GE128.out) | exact HB.out)⟩⟩
 case rest =>
  clear HC3
  try clear c1
  try clear p2
  try clear c6
  try clear c6b0
  try clear c6b1
  try clear c7
  try clear c7b0
  try clear c7b1
  try clear c8
  try clear c9
  try clear c11
  try clear c11b0
  try clear c11b1
  try clear c12
  try clear c15
  try clear c18
  try clear hcz10_0
  try clear hcz10_1
  try clear hcz10_2
  try clear hcz10_3
  try clear hcz10_4
  try clear hcz13_0
  try clear hcz13_1
  try clear hcz13_2
  try clear hcz13_3
  try clear hcz13_4
  try clear hcz14_0
  try clear hcz14_1
  try clear hcz14_2
  try clear hcz14_3
  try clear hcz14_4
  try clear hcz16_0
  try clear hcz16_1
  try clear hcz16_2
  try clear hcz16_3
  try clear hcz16_4
  try clear hcz17_0
  try clear hcz17_1
  try clear hcz17_2
  try clear hcz17_3
  try clear hcz17_4
  try clear hcz19_0
  try clear hcz19_1
  try clear hcz19_2
  try clear hcz19_3
  try clear hcz19_4
  try clear hcz20_0
  try clear hcz20_1
  try clear hcz20_2
  try clear hcz20_3
  try clear hcz20_4
  try clear hcz9_0
  try clear hcz9_1
  try clear hcz9_2
  try clear hcz9_3
  try clear hcz9_4
  obtain ⟨kq, x29_2, rfl, HA, HJ2, BK127, BK128, HB⟩ := hcut
  cases kq with
  | zero => exact absurd HA.out (by simp [check_Clash.j0])
  | succ kj2 =>
   have H := HA.out
   clear HA
   simp only [check_Clash.j0] at H
   by_cases c21 : x29_2 = true
   ·
    subst c21
    have H1 : (some true) = some r := by rw [if_pos rfl] at H; exact H
    clear H
    have H := H1
    clear H1
    obtain rfl := oI H
    go_wp2
    go_ret
    exact ⟨by first | rfl | (simp [eWn, eWs] <;> rfl) | (simp [*, eWn, eWs] <;> rfl), by repeat (first | (with_reducible first | exact HB.out | apply bAl | apply pbD | apply bD1 | refine bSt ?_ GE127.out | refine bSt ?_ GE128.out) | exact HB.out)⟩
   ·
    replace c21 := Bool.eq_false_iff.mpr c21
    subst c21
    have H1 : (check_Clash.l0 kj2 1 a0_0 a0_1 a0_2 a0_3 a0_4 a1_0 a1_1 a1_2 a1_3 a1_4) = some r := by rw [if_neg (show ¬ (false = true) by decide)] at H; exact H
    clear H
    have H := H1
    clear H1
    have H' := aK H
    clear H
    go_wp2
    go_loopg [5] kj2 (fun kq v5 w' => ∃ (x5_2 : Int), v5 = .int .i64 x5_2 ∧ Aside0 (check_Clash.l0 kq x5_2 a0_0 a0_1 a0_2 a0_3 a0_4 a1_0 a1_1 a1_2 a1_3 a1_4 = some r) ∧ Aside0 (kq ≤ kj2) ∧ Aside0 (w'.heap[gb127]? = some (.cells #[.int .i64 a0_0, .string a0_1, .string a0_2, .int .i64 a0_3, .int .i64 a0_4] 23 (0, 0))) ∧ Aside0 (w'.heap[gb128]? = some (.cells #[.int .i64 a1_0, .string a1_1, .string a1_2, .int .i64 a1_3, .int .i64 a1_4] 23 (0, 0))) ∧ Aside0 (Below w.heap.size w w'))
    case atStart => exact ⟨(1), (by first | rfl | (simp; done) | (simp [*]; done)), H', ⟨Nat.le_refl _⟩, ⟨by (with_reducible repeat (first | refine kDN ?_ _ | refine kDr ?_ | refine kAl ?_ _)); exact BK127.out⟩, ⟨by (with_reducible repeat (first | refine kDN ?_ _ | refine kDr ?_ | refine kAl ?_ _)); exact BK128.out⟩, ⟨by repeat (first | (with_reducible first | exact HB.out | apply bAl | apply pbD | apply bD1 | refine bSt ?_ GE127.out | refine bSt ?_ GE128.out) | exact HB.out)⟩⟩
    case round =>
     clear H'
     try clear c1
     try clear c2
     try clear p2
     try clear c6
     try clear c6b0
     try clear c6b1
     try clear c7
     try clear c7b0
     try clear c7b1
     try clear c8
     try clear c9
     try clear c11
     try clear c11b0
     try clear c11b1
     try clear c12
     try clear c15
     try clear c18
     try clear c21
     try clear hcz10_0
     try clear hcz10_1
     try clear hcz10_2
     try clear hcz10_3
     try clear hcz10_4
     try clear hcz13_0
     try clear hcz13_1
     try clear hcz13_2
     try clear hcz13_3
     try clear hcz13_4
     try clear hcz14_0
     try clear hcz14_1
     try clear hcz14_2
     try clear hcz14_3
     try clear hcz14_4
     try clear hcz16_0
     try clear hcz16_1
     try clear hcz16_2
     try clear hcz16_3
     try clear hcz16_4
     try clear hcz17_0
     try clear hcz17_1
     try clear hcz17_2
     try clear hcz17_3
     try clear hcz17_4
     try clear hcz19_0
     try clear hcz19_1
     try clear hcz19_2
     try clear hcz19_3
     try clear hcz19_4
     try clear hcz20_0
     try clear hcz20_1
     try clear hcz20_2
     try clear hcz20_3
     try clear hcz20_4
     try clear hcz9_0
     try clear hcz9_1
     try clear hcz9_2
     try clear hcz9_3
     try clear hcz9_4
     try clear p2
     obtain ⟨x5_2, rfl, HA, HK2, BK127, BK128, HB⟩ := hrel
     cases gk with
     | zero => exact absurd HA.out (by simp [check_Clash.l0])
     | succ k2 =>
      have H := HA.out
      clear HA
      simp only [check_Clash.l0] at H
      by_cases c22 : x5_2 ≤ 3
      ·
       rw [if_pos c22] at H
       have c22b0 : decide (x5_2 ≤ 3) = true := decide_eq_true c22
       clear c22
       replace H := oB H
       obtain ⟨t131, A230, H⟩ := H
       try dsimp only at H
       have A23 := aK A230
       clear A230
       by_cases c24 : t131 = true
       ·
        subst c24
        have H1 : ((check_In.f k2 a1_0 a1_1 a1_2 a1_3 a1_4 x5_2).bind fun t132 => (if t132 = true then ((check_begins.f a0_2 a1_2).bind fun t133 => (if t133 = true then (some true) else (check_Clash.l0 k2 (wrap64 (x5_2 + 1)) a0_0 a0_1 a0_2 a0_3 a0_4 a1_0 a1_1 a1_2 a1_3 a1_4))) else (check_Clash.l0 k2 (wrap64 (x5_2 + 1)) a0_0 a0_1 a0_2 a0_3 a0_4 a1_0 a1_1 a1_2 a1_3 a1_4))) = some r := by rw [if_pos rfl] at H; exact H
        clear H
        have H := H1
        clear H1
        replace H := oB H
        obtain ⟨t132, A250, H⟩ := H
        try dsimp only at H
        have A25 := aK A250
        clear A250
        by_cases c26 : t132 = true
        ·
         subst c26
         have H1 : ((check_begins.f a0_2 a1_2).bind fun t133 => (if t133 = true then (some true) else (check_Clash.l0 k2 (wrap64 (x5_2 + 1)) a0_0 a0_1 a0_2 a0_3 a0_4 a1_0 a1_1 a1_2 a1_3 a1_4))) = some r := by rw [if_pos rfl] at H; exact H
         clear H
         have H := H1
         clear H1
         replace H := oB H
         obtain ⟨t133, A270, H⟩ := H
         try dsimp only at H
         have A27 := aK A270
         clear A270
         by_cases c28 : t133 = true
         ·
          subst c28
          have H1 : (some true) = some r := by rw [if_pos rfl] at H; exact H
          clear H
          have H := H1
          clear H1
          obtain rfl := oI H
          have hnb29 := NB127_128.out
          have hnc29 := NB128_127.out
          have hcz30_0 : wr.cell? ⟨gb127, 0, none⟩ = some (.int .i64 a0_0) := (kCe BK127.out 0).trans rfl
          have hcz30_1 : wr.cell? ⟨gb127, 1, none⟩ = some (.string a0_1) := (kCe BK127.out 1).trans rfl
          have hcz30_2 : wr.cell? ⟨gb127, 2, none⟩ = some (.string a0_2) := (kCe BK127.out 2).trans rfl
          have hcz30_3 : wr.cell? ⟨gb127, 3, none⟩ = some (.int .i64 a0_3) := (kCe BK127.out 3).trans rfl
          have hcz30_4 : wr.cell? ⟨gb127, 4, none⟩ = some (.int .i64 a0_4) := (kCe BK127.out 4).trans rfl
          go_wp2_with (first | ((with_reducible refine gate_callee (f := 13) rfl ?_); refine goesL_ (some 36) rfl rfl Try.func13 (by kernel_rfl) rfl #[.agg #[.int .i64 a0_0, .string a0_1, .string a0_2, .int .i64 a0_3, .int .i64 a0_4], .int .i64 x5_2] rfl (by (try simp only [qM0, qM1, qM2]); first | done | rfl | (simp only [qD0, qD1]; rfl)) ?_; (with_reducible refine (check_In.calls k2 a0_0 a0_1 a0_2 a0_3 a0_4 x5_2 true _ A23.out).mono ?_); rintro e w31 ⟨rfl, hb⟩; refine ⟨_, rfl, ?_⟩; have n0_ := aK (kBe (g := gb127) (o := .cells #[.int .i64 a0_0, .string a0_1, .string a0_2, .int .i64 a0_3, .int .i64 a0_4] 23 (0, 0)) (by (with_reducible repeat (first | refine kDN ?_ _ | refine kDr ?_ | refine kAl ?_ _)); exact BK127.out) hb); have n1_ := aK (kBe (g := gb128) (o := .cells #[.int .i64 a1_0, .string a1_1, .string a1_2, .int .i64 a1_3, .int .i64 a1_4] 23 (0, 0)) (by (with_reducible repeat (first | refine kDN ?_ _ | refine kDr ?_ | refine kAl ?_ _)); exact BK128.out) hb); have n2_ := aK (bSp (by repeat (first | (with_reducible first | exact HB.out | apply bAl | apply pbD | apply bD1 | refine bSt ?_ GE127.out | refine bSt ?_ GE128.out) | exact HB.out)) hb); clear BK127; clear BK128; clear HB; have BK127 := n0_; have BK128 := n1_; have HB := n2_; clear n0_ n1_ n2_; (try clear hb); (try clear hb2); (try clear hk); (try clear hi); have hcz32_0 : w31.cell? ⟨gb128, 0, none⟩ = some (.int .i64 a1_0) := (kCe BK128.out 0).trans rfl; have hcz32_1 : w31.cell? ⟨gb128, 1, none⟩ = some (.string a1_1) := (kCe BK128.out 1).trans rfl; have hcz32_2 : w31.cell? ⟨gb128, 2, none⟩ = some (.string a1_2) := (kCe BK128.out 2).trans rfl; have hcz32_3 : w31.cell? ⟨gb128, 3, none⟩ = some (.int .i64 a1_3) := (kCe BK128.out 3).trans rfl; have hcz32_4 : w31.cell? ⟨gb128, 4, none⟩ = some (.int .i64 a1_4) := (kCe BK128.out 4).trans rfl) | (go_at_call 13; (with_reducible refine (check_In.calls k2 a1_0 a1_1 a1_2 a1_3 a1_4 x5_2 true _ A25.out).mono ?_); rintro e w33 ⟨rfl, hb⟩; have n0_ := aK (kBe (g := gb127) (o := .cells #[.int .i64 a0_0, .string a0_1, .string a0_2, .int .i64 a0_3, .int .i64 a0_4] 23 (0, 0)) (by (with_reducible repeat (first | refine kDN ?_ _ | refine kDr ?_ | refine kAl ?_ _)); exact BK127.out) hb); have n1_ := aK (kBe (g := gb128) (o := .cells #[.int .i64 a1_0, .string a1_1, .string a1_2, .int .i64 a1_3, .int .i64 a1_4] 23 (0, 0)) (by (with_reducible repeat (first | refine kDN ?_ _ | refine kDr ?_ | refine kAl ?_ _)); exact BK128.out) hb); have n2_ := aK (bSp (by repeat (first | (with_reducible first | exact HB.out | apply bAl | apply pbD | apply bD1 | refine bSt ?_ GE127.out | refine bSt ?_ GE128.out) | exact HB.out)) hb); clear BK127; clear BK128; clear HB; have BK127 := n0_; have BK128 := n1_; have HB := n2_; clear n0_ n1_ n2_; (try clear hb); (try clear hb2); (try clear hk); (try clear hi); have hcz34_0 : w33.cell? ⟨gb127, 0, none⟩ = some (.int .i64 a0_0) := (kCe BK127.out 0).trans rfl; have hcz34_1 : w33.cell? ⟨gb127, 1, none⟩ = some (.string a0_1) := (kCe BK127.out 1).trans rfl; have hcz34_2 : w33.cell? ⟨gb127, 2, none⟩ = some (.string a0_2) := (kCe BK127.out 2).trans rfl; have hcz34_3 : w33.cell? ⟨gb127, 3, none⟩ = some (.int .i64 a0_3) := (kCe BK127.out 3).trans rfl; have hcz34_4 : w33.cell? ⟨gb127, 4, none⟩ = some (.int .i64 a0_4) := (kCe BK127.out 4).trans rfl; have hcz35_0 : w33.cell? ⟨gb128, 0, none⟩ = some (.int .i64 a1_0) := (kCe BK128.out 0).trans rfl; have hcz35_1 : w33.cell? ⟨gb128, 1, none⟩ = some (.string a1_1) := (kCe BK128.out 1).trans rfl; have hcz35_2 : w33.cell? ⟨gb128, 2, none⟩ = some (.string a1_2) := (kCe BK128.out 2).trans rfl; have hcz35_3 : w33.cell? ⟨gb128, 3, none⟩ = some (.int .i64 a1_3) := (kCe BK128.out 3).trans rfl; have hcz35_4 : w33.cell? ⟨gb128, 4, none⟩ = some (.int .i64 a1_4) := (kCe BK128.out 4).trans rfl) | (go_at_call 23; (with_reducible refine (check_begins.calls a0_2 a1_2 true _ A27.out).mono ?_); rintro e w' ⟨rfl, ⟨nd, rfl⟩⟩))
          go_ret
          exact ⟨by first | rfl | (simp [eWn, eWs] <;> rfl) | (simp [*, eWn, eWs] <;> rfl), by repeat (first | (with_reducible first | exact HB.out | apply bAl | apply pbD | apply bD1 | refine bSt ?_ GE127.out | refine bSt ?_ GE128.out) | exact HB.out)⟩
         ·
          replace c28 := Bool.eq_false_iff.mpr c28
          subst c28
          have H1 : (check_Clash.l0 k2 (wrap64 (x5_2 + 1)) a0_0 a0_1 a0_2 a0_3 a0_4 a1_0 a1_1 a1_2 a1_3 a1_4) = some r := by rw [if_neg (show ¬ (false = true) by decide)] at H; exact H
          clear H
          have H := H1
          clear H1
          have H' := aK H
          clear H
          have hnb36 := NB127_128.out
          have hnc36 := NB128_127.out
          have hcz37_0 : wr.cell? ⟨gb127, 0, none⟩ = some (.int .i64 a0_0) := (kCe BK127.out 0).trans rfl
          have hcz37_1 : wr.cell? ⟨gb127, 1, none⟩ = some (.string a0_1) := (kCe BK127.out 1).trans rfl
          have hcz37_2 : wr.cell? ⟨gb127, 2, none⟩ = some (.string a0_2) := (kCe BK127.out 2).trans rfl
          have hcz37_3 : wr.cell? ⟨gb127, 3, none⟩ = some (.int .i64 a0_3) := (kCe BK127.out 3).trans rfl
          have hcz37_4 : wr.cell? ⟨gb127, 4, none⟩ = some (.int .i64 a0_4) := (kCe BK127.out 4).trans rfl
          go_wp2_with (first | ((with_reducible refine gate_callee (f := 13) rfl ?_); refine goesL_ (some 36) rfl rfl Try.func13 (by kernel_rfl) rfl #[.agg #[.int .i64 a0_0, .string a0_1, .string a0_2, .int .i64 a0_3, .int .i64 a0_4], .int .i64 x5_2] rfl (by (try simp only [qM0, qM1, qM2]); first | done | rfl | (simp only [qD0, qD1]; rfl)) ?_; (with_reducible refine (check_In.calls k2 a0_0 a0_1 a0_2 a0_3 a0_4 x5_2 true _ A23.out).mono ?_); rintro e w38 ⟨rfl, hb⟩; refine ⟨_, rfl, ?_⟩; have n0_ := aK (kBe (g := gb127) (o := .cells #[.int .i64 a0_0, .string a0_1, .string a0_2, .int .i64 a0_3, .int .i64 a0_4] 23 (0, 0)) (by (with_reducible repeat (first | refine kDN ?_ _ | refine kDr ?_ | refine kAl ?_ _)); exact BK127.out) hb); have n1_ := aK (kBe (g := gb128) (o := .cells #[.int .i64 a1_0, .string a1_1, .string a1_2, .int .i64 a1_3, .int .i64 a1_4] 23 (0, 0)) (by (with_reducible repeat (first | refine kDN ?_ _ | refine kDr ?_ | refine kAl ?_ _)); exact BK128.out) hb); have n2_ := aK (bSp (by repeat (first | (with_reducible first | exact HB.out | apply bAl | apply pbD | apply bD1 | refine bSt ?_ GE127.out | refine bSt ?_ GE128.out) | exact HB.out)) hb); clear BK127; clear BK128; clear HB; have BK127 := n0_; have BK128 := n1_; have HB := n2_; clear n0_ n1_ n2_; (try clear hb); (try clear hb2); (try clear hk); (try clear hi); have hcz39_0 : w38.cell? ⟨gb128, 0, none⟩ = some (.int .i64 a1_0) := (kCe BK128.out 0).trans rfl; have hcz39_1 : w38.cell? ⟨gb128, 1, none⟩ = some (.string a1_1) := (kCe BK128.out 1).trans rfl; have hcz39_2 : w38.cell? ⟨gb128, 2, none⟩ = some (.string a1_2) := (kCe BK128.out 2).trans rfl; have hcz39_3 : w38.cell? ⟨gb128, 3, none⟩ = some (.int .i64 a1_3) := (kCe BK128.out 3).trans rfl; have hcz39_4 : w38.cell? ⟨gb128, 4, none⟩ = some (.int .i64 a1_4) := (kCe BK128.out 4).trans rfl) | (go_at_call 13; (with_reducible refine (check_In.calls k2 a1_0 a1_1 a1_2 a1_3 a1_4 x5_2 true _ A25.out).mono ?_); rintro e w40 ⟨rfl, hb⟩; have n0_ := aK (kBe (g := gb127) (o := .cells #[.int .i64 a0_0, .string a0_1, .string a0_2, .int .i64 a0_3, .int .i64 a0_4] 23 (0, 0)) (by (with_reducible repeat (first | refine kDN ?_ _ | refine kDr ?_ | refine kAl ?_ _)); exact BK127.out) hb); have n1_ := aK (kBe (g := gb128) (o := .cells #[.int .i64 a1_0, .string a1_1, .string a1_2, .int .i64 a1_3, .int .i64 a1_4] 23 (0, 0)) (by (with_reducible repeat (first | refine kDN ?_ _ | refine kDr ?_ | refine kAl ?_ _)); exact BK128.out) hb); have n2_ := aK (bSp (by repeat (first | (with_reducible first | exact HB.out | apply bAl | apply pbD | apply bD1 | refine bSt ?_ GE127.out | refine bSt ?_ GE128.out) | exact HB.out)) hb); clear BK127; clear BK128; clear HB; have BK127 := n0_; have BK128 := n1_; have HB := n2_; clear n0_ n1_ n2_; (try clear hb); (try clear hb2); (try clear hk); (try clear hi); have hcz41_0 : w40.cell? ⟨gb127, 0, none⟩ = some (.int .i64 a0_0) := (kCe BK127.out 0).trans rfl; have hcz41_1 : w40.cell? ⟨gb127, 1, none⟩ = some (.string a0_1) := (kCe BK127.out 1).trans rfl; have hcz41_2 : w40.cell? ⟨gb127, 2, none⟩ = some (.string a0_2) := (kCe BK127.out 2).trans rfl; have hcz41_3 : w40.cell? ⟨gb127, 3, none⟩ = some (.int .i64 a0_3) := (kCe BK127.out 3).trans rfl; have hcz41_4 : w40.cell? ⟨gb127, 4, none⟩ = some (.int .i64 a0_4) := (kCe BK127.out 4).trans rfl; have hcz42_0 : w40.cell? ⟨gb128, 0, none⟩ = some (.int .i64 a1_0) := (kCe BK128.out 0).trans rfl; have hcz42_1 : w40.cell? ⟨gb128, 1, none⟩ = some (.string a1_1) := (kCe BK128.out 1).trans rfl; have hcz42_2 : w40.cell? ⟨gb128, 2, none⟩ = some (.string a1_2) := (kCe BK128.out 2).trans rfl; have hcz42_3 : w40.cell? ⟨gb128, 3, none⟩ = some (.int .i64 a1_3) := (kCe BK128.out 3).trans rfl; have hcz42_4 : w40.cell? ⟨gb128, 4, none⟩ = some (.int .i64 a1_4) := (kCe BK128.out 4).trans rfl) | (go_at_call 23; (with_reducible refine (check_begins.calls a0_2 a1_2 false _ A27.out).mono ?_); rintro e w' ⟨rfl, ⟨nd, rfl⟩⟩))
          go_roundg k2
          case measure => have := HJ2.out; have := HK2.out; omega
          case rel => exact ⟨(wrap64 (x5_2 + 1)), (by first | rfl | (simp; done) | (simp [*]; done)), H', ⟨by have := HJ2.out; have := HK2.out; omega⟩, ⟨by (with_reducible repeat (first | refine kDN ?_ _ | refine kDr ?_ | refine kAl ?_ _)); exact BK127.out⟩, ⟨by (with_reducible repeat (first | refine kDN ?_ _ | refine kDr ?_ | refine kAl ?_ _)); exact BK128.out⟩, ⟨by repeat (first | (with_reducible first | exact HB.out | apply bAl | apply pbD | apply bD1 | refine bSt ?_ GE127.out | refine bSt ?_ GE128.out) | exact HB.out)⟩⟩
        ·
         replace c26 := Bool.eq_false_iff.mpr c26
         subst c26
         have H1 : (check_Clash.l0 k2 (wrap64 (x5_2 + 1)) a0_0 a0_1 a0_2 a0_3 a0_4 a1_0 a1_1 a1_2 a1_3 a1_4) = some r := by rw [if_neg (show ¬ (false = true) by decide)] at H; exact H
         clear H
         have H := H1
         clear H1
         have H' := aK H
         clear H
         have hnb43 := NB127_128.out
         have hnc43 := NB128_127.out
         have hcz44_0 : wr.cell? ⟨gb127, 0, none⟩ = some (.int .i64 a0_0) := (kCe BK127.out 0).trans rfl
         have hcz44_1 : wr.cell? ⟨gb127, 1, none⟩ = some (.string a0_1) := (kCe BK127.out 1).trans rfl
         have hcz44_2 : wr.cell? ⟨gb127, 2, none⟩ = some (.string a0_2) := (kCe BK127.out 2).trans rfl
         have hcz44_3 : wr.cell? ⟨gb127, 3, none⟩ = some (.int .i64 a0_3) := (kCe BK127.out 3).trans rfl
         have hcz44_4 : wr.cell? ⟨gb127, 4, none⟩ = some (.int .i64 a0_4) := (kCe BK127.out 4).trans rfl
         go_wp2_with (first | ((with_reducible refine gate_callee (f := 13) rfl ?_); refine goesL_ (some 36) rfl rfl Try.func13 (by kernel_rfl) rfl #[.agg #[.int .i64 a0_0, .string a0_1, .string a0_2, .int .i64 a0_3, .int .i64 a0_4], .int .i64 x5_2] rfl (by (try simp only [qM0, qM1, qM2]); first | done | rfl | (simp only [qD0, qD1]; rfl)) ?_; (with_reducible refine (check_In.calls k2 a0_0 a0_1 a0_2 a0_3 a0_4 x5_2 true _ A23.out).mono ?_); rintro e w45 ⟨rfl, hb⟩; refine ⟨_, rfl, ?_⟩; have n0_ := aK (kBe (g := gb127) (o := .cells #[.int .i64 a0_0, .string a0_1, .string a0_2, .int .i64 a0_3, .int .i64 a0_4] 23 (0, 0)) (by (with_reducible repeat (first | refine kDN ?_ _ | refine kDr ?_ | refine kAl ?_ _)); exact BK127.out) hb); have n1_ := aK (kBe (g := gb128) (o := .cells #[.int .i64 a1_0, .string a1_1, .string a1_2, .int .i64 a1_3, .int .i64 a1_4] 23 (0, 0)) (by (with_reducible repeat (first | refine kDN ?_ _ | refine kDr ?_ | refine kAl ?_ _)); exact BK128.out) hb); have n2_ := aK (bSp (by repeat (first | (with_reducible first | exact HB.out | apply bAl | apply pbD | apply bD1 | refine bSt ?_ GE127.out | refine bSt ?_ GE128.out) | exact HB.out)) hb); clear BK127; clear BK128; clear HB; have BK127 := n0_; have BK128 := n1_; have HB := n2_; clear n0_ n1_ n2_; (try clear hb); (try clear hb2); (try clear hk); (try clear hi); have hcz46_0 : w45.cell? ⟨gb128, 0, none⟩ = some (.int .i64 a1_0) := (kCe BK128.out 0).trans rfl; have hcz46_1 : w45.cell? ⟨gb128, 1, none⟩ = some (.string a1_1) := (kCe BK128.out 1).trans rfl; have hcz46_2 : w45.cell? ⟨gb128, 2, none⟩ = some (.string a1_2) := (kCe BK128.out 2).trans rfl; have hcz46_3 : w45.cell? ⟨gb128, 3, none⟩ = some (.int .i64 a1_3) := (kCe BK128.out 3).trans rfl; have hcz46_4 : w45.cell? ⟨gb128, 4, none⟩ = some (.int .i64 a1_4) := (kCe BK128.out 4).trans rfl) | (go_at_call 13; (with_reducible refine (check_In.calls k2 a1_0 a1_1 a1_2 a1_3 a1_4 x5_2 false _ A25.out).mono ?_); rintro e w47 ⟨rfl, hb⟩; have n0_ := aK (kBe (g := gb127) (o := .cells #[.int .i64 a0_0, .string a0_1, .string a0_2, .int .i64 a0_3, .int .i64 a0_4] 23 (0, 0)) (by (with_reducible repeat (first | refine kDN ?_ _ | refine kDr ?_ | refine kAl ?_ _)); exact BK127.out) hb); have n1_ := aK (kBe (g := gb128) (o := .cells #[.int .i64 a1_0, .string a1_1, .string a1_2, .int .i64 a1_3, .int .i64 a1_4] 23 (0, 0)) (by (with_reducible repeat (first | refine kDN ?_ _ | refine kDr ?_ | refine kAl ?_ _)); exact BK128.out) hb); have n2_ := aK (bSp (by repeat (first | (with_reducible first | exact HB.out | apply bAl | apply pbD | apply bD1 | refine bSt ?_ GE127.out | refine bSt ?_ GE128.out) | exact HB.out)) hb); clear BK127; clear BK128; clear HB; have BK127 := n0_; have BK128 := n1_; have HB := n2_; clear n0_ n1_ n2_; (try clear hb); (try clear hb2); (try clear hk); (try clear hi)))
         go_roundg k2
         case measure => have := HJ2.out; have := HK2.out; omega
         case rel => exact ⟨(wrap64 (x5_2 + 1)), (by first | rfl | (simp; done) | (simp [*]; done)), H', ⟨by have := HJ2.out; have := HK2.out; omega⟩, ⟨by (with_reducible repeat (first | refine kDN ?_ _ | refine kDr ?_ | refine kAl ?_ _)); exact BK127.out⟩, ⟨by (with_reducible repeat (first | refine kDN ?_ _ | refine kDr ?_ | refine kAl ?_ _)); exact BK128.out⟩, ⟨by repeat (first | (with_reducible first | exact HB.out | apply bAl | apply pbD | apply bD1 | refine bSt ?_ GE127.out | refine bSt ?_ GE128.out) | exact HB.out)⟩⟩
       ·
        replace c24 := Bool.eq_false_iff.mpr c24
        subst c24
        have H1 : (check_Clash.l0 k2 (wrap64 (x5_2 + 1)) a0_0 a0_1 a0_2 a0_3 a0_4 a1_0 a1_1 a1_2 a1_3 a1_4) = some r := by rw [if_neg (show ¬ (false = true) by decide)] at H; exact H
        clear H
        have H := H1
        clear H1
        have H' := aK H
        clear H
        have hnb48 := NB127_128.out
        have hnc48 := NB128_127.out
        have hcz49_0 : wr.cell? ⟨gb127, 0, none⟩ = some (.int .i64 a0_0) := (kCe BK127.out 0).trans rfl
        have hcz49_1 : wr.cell? ⟨gb127, 1, none⟩ = some (.string a0_1) := (kCe BK127.out 1).trans rfl
        have hcz49_2 : wr.cell? ⟨gb127, 2, none⟩ = some (.string a0_2) := (kCe BK127.out 2).trans rfl
        have hcz49_3 : wr.cell? ⟨gb127, 3, none⟩ = some (.int .i64 a0_3) := (kCe BK127.out 3).trans rfl
        have hcz49_4 : wr.cell? ⟨gb127, 4, none⟩ = some (.int .i64 a0_4) := (kCe BK127.out 4).trans rfl
        go_wp2_with (first | ((with_reducible refine gate_callee (f := 13) rfl ?_); refine goesL_ (some 36) rfl rfl Try.func13 (by kernel_rfl) rfl #[.agg #[.int .i64 a0_0, .string a0_1, .string a0_2, .int .i64 a0_3, .int .i64 a0_4], .int .i64 x5_2] rfl (by (try simp only [qM0, qM1, qM2]); first | done | rfl | (simp only [qD0, qD1]; rfl)) ?_; (with_reducible refine (check_In.calls k2 a0_0 a0_1 a0_2 a0_3 a0_4 x5_2 false _ A23.out).mono ?_); rintro e w50 ⟨rfl, hb⟩; refine ⟨_, rfl, ?_⟩; have n0_ := aK (kBe (g := gb127) (o := .cells #[.int .i64 a0_0, .string a0_1, .string a0_2, .int .i64 a0_3, .int .i64 a0_4] 23 (0, 0)) (by (with_reducible repeat (first | refine kDN ?_ _ | refine kDr ?_ | refine kAl ?_ _)); exact BK127.out) hb); have n1_ := aK (kBe (g := gb128) (o := .cells #[.int .i64 a1_0, .string a1_1, .string a1_2, .int .i64 a1_3, .int .i64 a1_4] 23 (0, 0)) (by (with_reducible repeat (first | refine kDN ?_ _ | refine kDr ?_ | refine kAl ?_ _)); exact BK128.out) hb); have n2_ := aK (bSp (by repeat (first | (with_reducible first | exact HB.out | apply bAl | apply pbD | apply bD1 | refine bSt ?_ GE127.out | refine bSt ?_ GE128.out) | exact HB.out)) hb); clear BK127; clear BK128; clear HB; have BK127 := n0_; have BK128 := n1_; have HB := n2_; clear n0_ n1_ n2_; (try clear hb); (try clear hb2); (try clear hk); (try clear hi)))
        go_roundg k2
        case measure => have := HJ2.out; have := HK2.out; omega
        case rel => exact ⟨(wrap64 (x5_2 + 1)), (by first | rfl | (simp; done) | (simp [*]; done)), H', ⟨by have := HJ2.out; have := HK2.out; omega⟩, ⟨by (with_reducible repeat (first | refine kDN ?_ _ | refine kDr ?_ | refine kAl ?_ _)); exact BK127.out⟩, ⟨by (with_reducible repeat (first | refine kDN ?_ _ | refine kDr ?_ | refine kAl ?_ _)); exact BK128.out⟩, ⟨by repeat (first | (with_reducible first | exact HB.out | apply bAl | apply pbD | apply bD1 | refine bSt ?_ GE127.out | refine bSt ?_ GE128.out) | exact HB.out)⟩⟩
      ·
       rw [if_neg c22] at H
       have c22b0 : decide (x5_2 ≤ 3) = false := decide_eq_false c22
       clear c22
       replace H := oB H
       obtain ⟨t129, A510, H⟩ := H
       try dsimp only at H
       have A51 := aK A510
       clear A510
       by_cases c52 : t129 = true
       ·
        subst c52
        have H1 : (some true) = some r := by rw [if_pos rfl] at H; exact H
        clear H
        have H := H1
        clear H1
        obtain rfl := oI H
        have hnb53 := NB127_128.out
        have hnc53 := NB128_127.out
        have hcz54_0 : wr.cell? ⟨gb127, 0, none⟩ = some (.int .i64 a0_0) := (kCe BK127.out 0).trans rfl
        have hcz54_1 : wr.cell? ⟨gb127, 1, none⟩ = some (.string a0_1) := (kCe BK127.out 1).trans rfl
        have hcz54_2 : wr.cell? ⟨gb127, 2, none⟩ = some (.string a0_2) := (kCe BK127.out 2).trans rfl
        have hcz54_3 : wr.cell? ⟨gb127, 3, none⟩ = some (.int .i64 a0_3) := (kCe BK127.out 3).trans rfl
        have hcz54_4 : wr.cell? ⟨gb127, 4, none⟩ = some (.int .i64 a0_4) := (kCe BK127.out 4).trans rfl
        have hcz55_0 : wr.cell? ⟨gb128, 0, none⟩ = some (.int .i64 a1_0) := (kCe BK128.out 0).trans rfl
        have hcz55_1 : wr.cell? ⟨gb128, 1, none⟩ = some (.string a1_1) := (kCe BK128.out 1).trans rfl
        have hcz55_2 : wr.cell? ⟨gb128, 2, none⟩ = some (.string a1_2) := (kCe BK128.out 2).trans rfl
        have hcz55_3 : wr.cell? ⟨gb128, 3, none⟩ = some (.int .i64 a1_3) := (kCe BK128.out 3).trans rfl
        have hcz55_4 : wr.cell? ⟨gb128, 4, none⟩ = some (.int .i64 a1_4) := (kCe BK128.out 4).trans rfl
        go_wp2_with (first | ((with_reducible refine gate_callee (f := 24) rfl ?_); refine goesL_ (some 51) rfl rfl Try.func24 (by kernel_rfl) rfl #[.agg #[.int .i64 a0_0, .string a0_1, .string a0_2, .int .i64 a0_3, .int .i64 a0_4], .agg #[.int .i64 a1_0, .string a1_1, .string a1_2, .int .i64 a1_3, .int .i64 a1_4]] rfl (by (try simp only [qM0, qM1, qM2]); first | done | rfl | (simp only [qD0, qD1]; rfl)) ?_; (with_reducible refine (check_spoils.calls k2 a0_0 a0_1 a0_2 a0_3 a0_4 a1_0 a1_1 a1_2 a1_3 a1_4 true _ A51.out).mono ?_); rintro e w56 ⟨rfl, hb⟩; refine ⟨_, rfl, ?_⟩; have n0_ := aK (kBe (g := gb127) (o := .cells #[.int .i64 a0_0, .string a0_1, .string a0_2, .int .i64 a0_3, .int .i64 a0_4] 23 (0, 0)) (by (with_reducible repeat (first | refine kDN ?_ _ | refine kDr ?_ | refine kAl ?_ _)); exact BK127.out) hb); have n1_ := aK (kBe (g := gb128) (o := .cells #[.int .i64 a1_0, .string a1_1, .string a1_2, .int .i64 a1_3, .int .i64 a1_4] 23 (0, 0)) (by (with_reducible repeat (first | refine kDN ?_ _ | refine kDr ?_ | refine kAl ?_ _)); exact BK128.out) hb); have n2_ := aK (bSp (by repeat (first | (with_reducible first | exact HB.out | apply bAl | apply pbD | apply bD1 | refine bSt ?_ GE127.out | refine bSt ?_ GE128.out) | exact HB.out)) hb); clear BK127; clear BK128; clear HB; have BK127 := n0_; have BK128 := n1_; have HB := n2_; clear n0_ n1_ n2_; (try clear hb); (try clear hb2); (try clear hk); (try clear hi)))
        go_ret
        exact ⟨by first | rfl | (simp [eWn, eWs] <;> rfl) | (simp [*, eWn, eWs] <;> rfl), by repeat (first | (with_reducible first | exact HB.out | apply bAl | apply pbD | apply bD1 | refine bSt ?_ GE127.out | refine bSt ?_ GE128.out) | exact HB.out)⟩
       ·
        replace c52 := Bool.eq_false_iff.mpr c52
        subst c52
        have H1 : ((check_spoils.f k2 a1_0 a1_1 a1_2 a1_3 a1_4 a0_0 a0_1 a0_2 a0_3 a0_4).bind fun t130 => (some t130)) = some r := by rw [if_neg (show ¬ (false = true) by decide)] at H; exact H
        clear H
        have H := H1
        clear H1
        replace H := oB H
        obtain ⟨t130, A570, H⟩ := H
        replace H : (some t130) = some r := H
        have A57 := aK A570
        clear A570
        obtain rfl := oI H
        have hnb58 := NB127_128.out
        have hnc58 := NB128_127.out
        have hcz59_0 : wr.cell? ⟨gb127, 0, none⟩ = some (.int .i64 a0_0) := (kCe BK127.out 0).trans rfl
        have hcz59_1 : wr.cell? ⟨gb127, 1, none⟩ = some (.string a0_1) := (kCe BK127.out 1).trans rfl
        have hcz59_2 : wr.cell? ⟨gb127, 2, none⟩ = some (.string a0_2) := (kCe BK127.out 2).trans rfl
        have hcz59_3 : wr.cell? ⟨gb127, 3, none⟩ = some (.int .i64 a0_3) := (kCe BK127.out 3).trans rfl
        have hcz59_4 : wr.cell? ⟨gb127, 4, none⟩ = some (.int .i64 a0_4) := (kCe BK127.out 4).trans rfl
        have hcz60_0 : wr.cell? ⟨gb128, 0, none⟩ = some (.int .i64 a1_0) := (kCe BK128.out 0).trans rfl
        have hcz60_1 : wr.cell? ⟨gb128, 1, none⟩ = some (.string a1_1) := (kCe BK128.out 1).trans rfl
        have hcz60_2 : wr.cell? ⟨gb128, 2, none⟩ = some (.string a1_2) := (kCe BK128.out 2).trans rfl
        have hcz60_3 : wr.cell? ⟨gb128, 3, none⟩ = some (.int .i64 a1_3) := (kCe BK128.out 3).trans rfl
        have hcz60_4 : wr.cell? ⟨gb128, 4, none⟩ = some (.int .i64 a1_4) := (kCe BK128.out 4).trans rfl
        go_wp2_with (first | ((with_reducible refine gate_callee (f := 24) rfl ?_); refine goesL_ (some 51) rfl rfl Try.func24 (by kernel_rfl) rfl #[.agg #[.int .i64 a0_0, .string a0_1, .string a0_2, .int .i64 a0_3, .int .i64 a0_4], .agg #[.int .i64 a1_0, .string a1_1, .string a1_2, .int .i64 a1_3, .int .i64 a1_4]] rfl (by (try simp only [qM0, qM1, qM2]); first | done | rfl | (simp only [qD0, qD1]; rfl)) ?_; (with_reducible refine (check_spoils.calls k2 a0_0 a0_1 a0_2 a0_3 a0_4 a1_0 a1_1 a1_2 a1_3 a1_4 false _ A51.out).mono ?_); rintro e w61 ⟨rfl, hb⟩; refine ⟨_, rfl, ?_⟩; have n0_ := aK (kBe (g := gb127) (o := .cells #[.int .i64 a0_0, .string a0_1, .string a0_2, .int .i64 a0_3, .int .i64 a0_4] 23 (0, 0)) (by (with_reducible repeat (first | refine kDN ?_ _ | refine kDr ?_ | refine kAl ?_ _)); exact BK127.out) hb); have n1_ := aK (kBe (g := gb128) (o := .cells #[.int .i64 a1_0, .string a1_1, .string a1_2, .int .i64 a1_3, .int .i64 a1_4] 23 (0, 0)) (by (with_reducible repeat (first | refine kDN ?_ _ | refine kDr ?_ | refine kAl ?_ _)); exact BK128.out) hb); have n2_ := aK (bSp (by repeat (first | (with_reducible first | exact HB.out | apply bAl | apply pbD | apply bD1 | refine bSt ?_ GE127.out | refine bSt ?_ GE128.out) | exact HB.out)) hb); clear BK127; clear BK128; clear HB; have BK127 := n0_; have BK128 := n1_; have HB := n2_; clear n0_ n1_ n2_; (try clear hb); (try clear hb2); (try clear hk); (try clear hi); have hcz62_0 : w61.cell? ⟨gb128, 0, none⟩ = some (.int .i64 a1_0) := (kCe BK128.out 0).trans rfl; have hcz62_1 : w61.cell? ⟨gb128, 1, none⟩ = some (.string a1_1) := (kCe BK128.out 1).trans rfl; have hcz62_2 : w61.cell? ⟨gb128, 2, none⟩ = some (.string a1_2) := (kCe BK128.out 2).trans rfl; have hcz62_3 : w61.cell? ⟨gb128, 3, none⟩ = some (.int .i64 a1_3) := (kCe BK128.out 3).trans rfl; have hcz62_4 : w61.cell? ⟨gb128, 4, none⟩ = some (.int .i64 a1_4) := (kCe BK128.out 4).trans rfl; have hcz63_0 : w61.cell? ⟨gb127, 0, none⟩ = some (.int .i64 a0_0) := (kCe BK127.out 0).trans rfl; have hcz63_1 : w61.cell? ⟨gb127, 1, none⟩ = some (.string a0_1) := (kCe BK127.out 1).trans rfl; have hcz63_2 : w61.cell? ⟨gb127, 2, none⟩ = some (.string a0_2) := (kCe BK127.out 2).trans rfl; have hcz63_3 : w61.cell? ⟨gb127, 3, none⟩ = some (.int .i64 a0_3) := (kCe BK127.out 3).trans rfl; have hcz63_4 : w61.cell? ⟨gb127, 4, none⟩ = some (.int .i64 a0_4) := (kCe BK127.out 4).trans rfl) | (go_at_call 24; (with_reducible refine (check_spoils.calls k2 a1_0 a1_1 a1_2 a1_3 a1_4 a0_0 a0_1 a0_2 a0_3 a0_4 t130 _ A57.out).mono ?_); rintro e w64 ⟨rfl, hb⟩; have n0_ := aK (kBe (g := gb127) (o := .cells #[.int .i64 a0_0, .string a0_1, .string a0_2, .int .i64 a0_3, .int .i64 a0_4] 23 (0, 0)) (by (with_reducible repeat (first | refine kDN ?_ _ | refine kDr ?_ | refine kAl ?_ _)); exact BK127.out) hb); have n1_ := aK (kBe (g := gb128) (o := .cells #[.int .i64 a1_0, .string a1_1, .string a1_2, .int .i64 a1_3, .int .i64 a1_4] 23 (0, 0)) (by (with_reducible repeat (first | refine kDN ?_ _ | refine kDr ?_ | refine kAl ?_ _)); exact BK128.out) hb); have n2_ := aK (bSp (by repeat (first | (with_reducible first | exact HB.out | apply bAl | apply pbD | apply bD1 | refine bSt ?_ GE127.out | refine bSt ?_ GE128.out) | exact HB.out)) hb); clear BK127; clear BK128; clear HB; have BK127 := n0_; have BK128 := n1_; have HB := n2_; clear n0_ n1_ n2_; (try clear hb); (try clear hb2); (try clear hk); (try clear hi)))
        go_ret
        exact ⟨by first | rfl | (simp [eWn, eWs] <;> rfl) | (simp [*, eWn, eWs] <;> rfl), by repeat (first | (with_reducible first | exact HB.out | apply bAl | apply pbD | apply bD1 | refine bSt ?_ GE127.out | refine bSt ?_ GE128.out) | exact HB.out)⟩
def cell_may.f (a0 : Int) : Option (Bool) := some ((a0 / 64) == 0)
set_option maxHeartbeats 8000000 in
set_option maxRecDepth 100000 in
theorem cell_may.calls (a0 : Int) (r : Bool) (w : World) (h : cell_may.f a0 = some r) :
  Calls Try.prog 57 #[.int .u8 a0] w fun e w' => e = .returned (.bool r) ∧ Drawn0 w w' := by
 have H : (some ((a0 / 64) == 0)) = some r := h
 clear h
 obtain rfl := oI H
 go_enter Try.func57, Try.ntmps57
 go_wp2
 go_ret
 exact ⟨by first | rfl | (simp; done) | (simp [*]; done), by repeat (first | exact Drawn0.refl _ | apply Drawn0.step)⟩
def cell_Dots.l0 : Nat → Int → List Int → Int → Option (ByteArray)
 | 0, _, _, _ => none
 | k + 1, x0, x3, x5 => if x5 < 6 then (if 0 ≤ x5 then (if (Go.bits .and .u8 (shr .u8 x0 x5) 1) = 1 then (if x3.length < 140737488355328 then (cell_Dots.l0 k x0 (x3 ++ [(wrap64 (49 + x5)) % 256]) (wrap64 (x5 + 1))) else (none)) else (cell_Dots.l0 k x0 x3 (wrap64 (x5 + 1)))) else (none)) else (some (strOfNums x3))
def cell_Dots.f (k : Nat) (a0 : Int) : Option (ByteArray) := cell_Dots.l0 k a0 ([] : List Int) 0
theorem cell_Dots.mono_l : ∀ k, (∀ y0 y1 y2, LeO (cell_Dots.l0 k y0 y1 y2) (cell_Dots.l0 (k + 1) y0 y1 y2))
 | 0 => fun _ _ _ r h => by simp [cell_Dots.l0] at h
 | k + 1 => by
  have ih0 := cell_Dots.mono_l k
  ·
   intro y0 y1 y2
   unfold cell_Dots.l0
   repeat' first
   | (with_reducible exact ih0 _ _ _)
   | (with_reducible exact LeO.refl _)
   | (with_reducible exact LeO.none _)
   | (with_reducible refine LeO.ite ?_ ?_)
   | (with_reducible refine LeO.bind ?_ (fun _ => ?_))
   | exact ih0 _ _ _
   | exact LeO.none _
   | refine LeO.ite ?_ ?_
   | refine LeO.bind ?_ (fun _ => ?_)
theorem cell_Dots.mono : ∀ a0 k, LeO (cell_Dots.f k a0) (cell_Dots.f (k + 1) a0) := by
 intro a0 k
 have ih0 := cell_Dots.mono_l k
 unfold cell_Dots.f
 repeat' first
   | (with_reducible exact ih0 _ _ _)
   | (with_reducible exact LeO.refl _)
   | (with_reducible exact LeO.none _)
   | (with_reducible refine LeO.ite ?_ ?_)
   | (with_reducible refine LeO.bind ?_ (fun _ => ?_))
   | exact ih0 _ _ _
   | exact LeO.none _
   | refine LeO.ite ?_ ?_
   | refine LeO.bind ?_ (fun _ => ?_)
set_option maxHeartbeats 8000000 in
set_option maxRecDepth 100000 in
theorem cell_Dots.calls (k : Nat) (a0 : Int) (r : ByteArray) (w : World) (h : cell_Dots.f k a0 = some r) :
  Calls Try.prog 58 #[.int .u8 a0] w fun e w' => e = .returned (.string r) ∧ Below w.heap.size w w' := by
 have HB := aK (Below.refl w.heap.size w)
 have H : (cell_Dots.l0 k a0 ([] : List Int) 0) = some r := h
 clear h
 have H' := aK H
 clear H
 go_enter Try.func58, Try.ntmps58
 go_wp2
 go_loopg [3, 5] k (fun kq v3 v5 w' => ∃ (x3_1 : List Int) (x5_1 : Int), v5 = .int .i64 x5_1 ∧ Aside0 (cell_Dots.l0 kq a0 x3_1 x5_1 = some r) ∧ Aside0 (kq ≤ k) ∧ Aside0 (Kd.R (Kd.int .u8) 5 w' w.heap.size (fun _ => True) v3 x3_1) ∧ Aside0 (Below w.heap.size w w'))
 case atStart => exact ⟨(([] : List Int)), (0), (by first | rfl | (simp; done) | (simp [*]; done)), H', ⟨Nat.le_refl _⟩, ⟨by first | exact Kd.R_nil _ _ _ _ _ | exact Kd.N_nil _ _ _ _ _ | exact Kd.V_nil _ _ _ _ _ | exact Kd.Q_nil _ _ _ _ _ | exact Kd.S_nil _ _ _ _ _⟩, ⟨by repeat (first | (with_reducible first | exact HB.out | apply bAl | apply pbD | apply bD1) | exact HB.out)⟩⟩
 case round =>
  clear H'
  obtain ⟨x3_1, x5_1, rfl, HA, HK1, HO_3, HB⟩ := hrel
  cases gk with
  | zero => exact absurd HA.out (by simp [cell_Dots.l0])
  | succ k1 =>
   have H := HA.out
   clear HA
   simp only [cell_Dots.l0] at H
   by_cases c2 : x5_1 < 6
   ·
    rw [if_pos c2] at H
    have c2b0 : decide (x5_1 < 6) = true := decide_eq_true c2
    clear c2
    by_cases c3 : 0 ≤ x5_1
    ·
     rw [if_pos c3] at H
     have c3b0 := eq_true c3
     have c3b1 : decide (0 ≤ x5_1) = true := decide_eq_true c3
     clear c3
     obtain ⟨ji4, hji4⟩ : ∃ j_ : Int, (shr .u8 a0 x5_1) = j_ := ⟨_, rfl⟩
     replace H : (if (Go.bits .and .u8 (ji4) 1) = 1 then (if x3_1.length < 140737488355328 then (cell_Dots.l0 k1 a0 (x3_1 ++ [(wrap64 (49 + x5_1)) % 256]) (wrap64 (x5_1 + 1))) else (none)) else (cell_Dots.l0 k1 a0 x3_1 (wrap64 (x5_1 + 1)))) = some r := by first | (rw [hji4] at H; exact H) | (simp only [hji4] at H ⊢; exact H)
     have hji4_ : (a0 / 2 ^ min x5_1.toNat 8) = ji4 := hji4
     have hji4z : x5_1 ≤ 8 → (a0 / 2 ^ x5_1.toNat) = ji4 := shr_small hji4
     by_cases c5 : (Go.bits .and .u8 (ji4) 1) = 1
     ·
      rw [if_pos c5] at H
      have c5b0 : ((Go.bits .and .u8 (ji4) 1) == 1) = true := beq_iff_eq.mpr c5
      have c5b1 : ((Go.bits .and .u8 (ji4) 1) != 1) = false := bne_eq_false_iff_eq.mpr c5
      clear c5
      by_cases c6 : x3_1.length < 140737488355328
      ·
       rw [if_pos c6] at H
       have LMc6 := aK c6
       clear c6
       obtain ⟨y134, hy134⟩ : ∃ y_ : List Int, y_ = (x3_1 ++ [(wrap64 (49 + x5_1)) % 256]) := ⟨_, rfl⟩
       replace H : (cell_Dots.l0 k1 a0 y134 (wrap64 (x5_1 + 1))) = some r := by first | (rw [hy134]; with_reducible exact H) | (have H2_ := (Option.bind_some _ _).symm.trans H; rw [hy134]; with_reducible exact H2_) | (have H2_ := (Option.bind_some _ _).symm.trans H; with_reducible exact H2_) | with_reducible exact H | (rw [hy134]; exact H) | exact H
       have Ny134 := aK hy134
       clear hy134
       have H' := aK H
       clear H
       go_wp2_with (first | ((with_reducible refine gate_builtin (b := .append) (xs := #[.tmp 13, .tmp 17]) rfl ?_); at_builtin; refine Kd.R_append (Kd.int .u8) (w0 := w) w.heap.size rfl (.tmp 13) (.tmp 17) 36 5 (.int .u8 0) 1 rfl Try.underlying36 info5 rfl (by decide) (by omega) u3 x3_1 ((wrap64 (49 + x5_1)) % 256) [.int .u8 ((wrap64 (49 + x5_1)) % 256)] (fun _ => True) (fun _ => False) rfl rfl ?aP (fun _ hk => hk.elim) ?aF ?aO ?aB ?aS ?aL ?_; (case aP => exact rfl); (case aB => exact (by repeat (first | (with_reducible first | exact HB.out | apply bAl | apply pbD | apply bD1) | exact HB.out))); (case aF => exact (fun _ _ => trivial)); (case aO => exact (by (with_reducible repeat (first | apply Kd.R_alloc | apply Kd.R_drewN | apply Kd.R_drew)); exact HO_3.out)); (case aS => exact (bSz (by repeat (first | (with_reducible first | exact HB.out | apply bAl | apply pbD | apply bD1) | exact HB.out)))); (case aL => have := LMc6.out; omega); intro v135 w7 ho hb hg hat; rw [← Ny134.out] at ho; have n0_ := aK (hb); have n1_ := aK (ho); clear HB; clear HO_3; have HB := n0_; have HO136 := n1_; clear n0_ n1_; clear ho hb hg hat))
       go_roundg k1
       case measure => have := HK1.out; omega
       case rel => exact ⟨(y134), (wrap64 (x5_1 + 1)), (by first | rfl | (simp; done) | (simp [*]; done)), H', ⟨by have := HK1.out; omega⟩, ⟨by (with_reducible repeat (first | apply Kd.R_alloc | apply Kd.R_drewN | apply Kd.R_drew)); exact HO136.out⟩, ⟨by repeat (first | (with_reducible first | exact HB.out | apply bAl | apply pbD | apply bD1) | exact HB.out)⟩⟩
      ·
       rw [if_neg c6] at H
       exact absurd H (by simp)
     ·
      rw [if_neg c5] at H
      have c5b0 : ((Go.bits .and .u8 (ji4) 1) == 1) = false := beq_eq_false_iff_ne.mpr c5
      have c5b1 : ((Go.bits .and .u8 (ji4) 1) != 1) = true := bne_iff_ne.mpr c5
      have H' := aK H
      clear H
      go_wp2
      go_roundg k1
      case measure => have := HK1.out; omega
      case rel => exact ⟨(x3_1), (wrap64 (x5_1 + 1)), (by first | rfl | (simp; done) | (simp [*]; done)), H', ⟨by have := HK1.out; omega⟩, ⟨by (with_reducible repeat (first | apply Kd.R_alloc | apply Kd.R_drewN | apply Kd.R_drew)); exact HO_3.out⟩, ⟨by repeat (first | (with_reducible first | exact HB.out | apply bAl | apply pbD | apply bD1) | exact HB.out)⟩⟩
    ·
     rw [if_neg c3] at H
     exact absurd H (by simp)
   ·
    rw [if_neg c2] at H
    have c2b0 : decide (x5_1 < 6) = false := decide_eq_false c2
    clear c2
    obtain rfl := oI H
    have hcv8 := own_string (P := Try.prog) Try.underlying36 Try.underlying5 Try.underlying9 (Kd.own_of_R HO_3.out)
    go_wp2
    go_ret
    exact ⟨by first | rfl | (simp [eWn, eWs] <;> rfl) | (simp [*, eWn, eWs] <;> rfl), by repeat (first | (with_reducible first | exact HB.out | apply bAl | apply pbD | apply bD1) | exact HB.out)⟩
end Go.Proofs.Ytgjkjoocnkdckaa.PChk
