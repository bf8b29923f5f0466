import Derived.Test.YtbpbniemjjhecaaZPChk0
import Derived.Test.YtbpbniemjjhecaaZPChk2
import Derived.Test.YtbpbniemjjhecaaZPChk3
import Derived.Test.YtbpbniemjjhecaaZPChk8
import Derived.Test.YtbpbniemjjhecaaZPChk9
namespace Go.Proofs.Ytbpbniemjjhecaa.PChk
open Go.RowKit Go.Proofs.Ytbpbniemjjhecaa.G Go.Proofs.YtbpbniemjjhecaaW.PrintWords Go.Proofs.YtbpbniemjjhecaaW.PrintLast Go.Proofs.YtbpbniemjjhecaaW.PrintMore
attribute [local go_sem] max2_int min2_int max_two min_two max_three min_three max_four min_four
set_option linter.unusedVariables false
set_option linter.unusedSimpArgs false
set_option maxHeartbeats 8000000
set_option maxRecDepth 100000
mutual
def check_Clash.j0 : Nat → Bool → Int → ByteArray → ByteArray → Int → Int → Int → ByteArray → ByteArray → Int → Int → Option (Bool)
 | 0, _, _, _, _, _, _, _, _, _, _, _ => none
 | k + 1, x29, x230000, x230001, x230002, x230003, x230004, x231000, x231001, x231002, x231003, x231004 => if x29 = true then (some true) else (check_Clash.l0 k 1 x230000 x230001 x230002 x230003 x230004 x231000 x231001 x231002 x231003 x231004)
def check_Clash.l0 : Nat → Int → Int → ByteArray → ByteArray → Int → Int → Int → ByteArray → ByteArray → Int → Int → Option (Bool)
 | 0, _, _, _, _, _, _, _, _, _, _, _ => none
 | k + 1, x5, x230000, x230001, x230002, x230003, x230004, x231000, x231001, x231002, x231003, x231004 => if x5 ≤ 3 then ((check_In.f k x230000 x230001 x230002 x230003 x230004 x5).bind fun t233 => (if t233 = true then ((check_In.f k x231000 x231001 x231002 x231003 x231004 x5).bind fun t234 => (if t234 = true then ((check_begins.f x230002 x231002).bind fun t235 => (if t235 = true then (some true) else (check_Clash.l0 k (wrap64 (x5 + 1)) x230000 x230001 x230002 x230003 x230004 x231000 x231001 x231002 x231003 x231004))) else (check_Clash.l0 k (wrap64 (x5 + 1)) x230000 x230001 x230002 x230003 x230004 x231000 x231001 x231002 x231003 x231004))) else (check_Clash.l0 k (wrap64 (x5 + 1)) x230000 x230001 x230002 x230003 x230004 x231000 x231001 x231002 x231003 x231004))) else ((check_spoils.f k x230000 x230001 x230002 x230003 x230004 x231000 x231001 x231002 x231003 x231004).bind fun t231 => (if t231 = true then (some true) else ((check_spoils.f k x231000 x231001 x231002 x231003 x231004 x230000 x230001 x230002 x230003 x230004).bind fun t232 => (some t232))))
end
def check_Clash.f (k : Nat) (a0_0 : Int) (a0_1 : ByteArray) (a0_2 : ByteArray) (a0_3 : Int) (a0_4 : Int) (a1_0 : Int) (a1_1 : ByteArray) (a1_2 : ByteArray) (a1_3 : Int) (a1_4 : Int) : Option (Bool) := if a0_0 = a1_0 then (if a0_1.toList = a1_1.toList then (check_Clash.j0 k true a0_0 a0_1 a0_2 a0_3 a0_4 a1_0 a1_1 a1_2 a1_3 a1_4) else (if a0_0 = 5 then (check_Clash.j0 k (a0_2.toList == a1_2.toList) a0_0 a0_1 a0_2 a0_3 a0_4 a1_0 a1_1 a1_2 a1_3 a1_4) else (check_Clash.j0 k false a0_0 a0_1 a0_2 a0_3 a0_4 a1_0 a1_1 a1_2 a1_3 a1_4))) else (check_Clash.j0 k false a0_0 a0_1 a0_2 a0_3 a0_4 a1_0 a1_1 a1_2 a1_3 a1_4)
theorem check_Clash.calls (k : Nat) (a0_0 : Int) (a0_1 : ByteArray) (a0_2 : ByteArray) (a0_3 : Int) (a0_4 : Int) (a1_0 : Int) (a1_1 : ByteArray) (a1_2 : ByteArray) (a1_3 : Int) (a1_4 : Int) (r : Bool) (w : World) (h : check_Clash.f k a0_0 a0_1 a0_2 a0_3 a0_4 a1_0 a1_1 a1_2 a1_3 a1_4 = some r) :
  Calls Try.prog 44 #[.agg #[.int .i64 a0_0, .string a0_1, .string a0_2, .int .i64 a0_3, .int .i64 a0_4], .agg #[.int .i64 a1_0, .string a1_1, .string a1_2, .int .i64 a1_3, .int .i64 a1_4]] w fun e w' => e = .returned (.bool r) ∧ Below w.heap.size w w' := by
 have hu33 := Try.underlying33
 have HB := aK (Below.refl w.heap.size w)
 have H : (if a0_0 = a1_0 then (if a0_1.toList = a1_1.toList then (check_Clash.j0 k true a0_0 a0_1 a0_2 a0_3 a0_4 a1_0 a1_1 a1_2 a1_3 a1_4) else (if a0_0 = 5 then (check_Clash.j0 k (a0_2.toList == a1_2.toList) a0_0 a0_1 a0_2 a0_3 a0_4 a1_0 a1_1 a1_2 a1_3 a1_4) else (check_Clash.j0 k false a0_0 a0_1 a0_2 a0_3 a0_4 a1_0 a1_1 a1_2 a1_3 a1_4))) else (check_Clash.j0 k false a0_0 a0_1 a0_2 a0_3 a0_4 a1_0 a1_1 a1_2 a1_3 a1_4)) = some r := h
 clear h
 have HC3 := aK H
 clear H
 go_enter Try.func44, Try.ntmps44
 go_upto_region 1 with (first | ((with_reducible refine gate_dst (N := 2) rfl ?_); refine box_event ?hg (N := 2) ?hd (cs := #[.int .i64 a0_0, .string a0_1, .string a0_2, .int .i64 a0_3, .int .i64 a0_4]) (t := 33) ?hr ?_; (case hd => rfl); (case hg => rfl); (case hr => first | (go_simp; done) | (go_simp; rfl)); intro gb229 hg w4 hbox hb; have n0_ := aK (bSp (by repeat (first | (with_reducible first | exact HB.out | apply bAl | apply pbD | apply bD1) | exact HB.out)) hb); have n1_ := aK (hbox); have n2_ := aK ((by rw [hg]; exact (bSz (by repeat (first | (with_reducible first | exact HB.out | apply bAl | apply pbD | apply bD1) | exact HB.out))) : w.heap.size ≤ gb229)); have n3_ := aK ((by rw [hg]; exact (bSz (by repeat (first | (with_reducible first | exact HB.out | apply bAl | apply pbD | apply bD1) | exact HB.out))) : w.heap.size ≤ gb229)); clear HB; have HB := n0_; have BK229 := n1_; have GW229 := n2_; have GE229 := n3_; clear n0_ n1_ n2_ n3_; clear hb hbox hg) | ((with_reducible refine gate_dst (N := 3) rfl ?_); refine box_event ?hg (N := 3) ?hd (cs := #[.int .i64 a1_0, .string a1_1, .string a1_2, .int .i64 a1_3, .int .i64 a1_4]) (t := 33) ?hr ?_; (case hd => rfl); (case hg => rfl); (case hr => first | (go_simp; done) | (go_simp; rfl)); intro gb230 hg w5 hbox hb; have n0_ := aK (kBe (g := gb229) (o := .cells #[.int .i64 a0_0, .string a0_1, .string a0_2, .int .i64 a0_3, .int .i64 a0_4] 33 (0, 0)) (by (with_reducible repeat (first | refine kDN ?_ _ | refine kDr ?_ | refine kAl ?_ _)); exact BK229.out) hb); have n1_ := aK (bSp (by repeat (first | (with_reducible first | exact HB.out | apply bAl | apply pbD | apply bD1 | refine bSt ?_ GE229.out) | exact HB.out)) hb); have n2_ := aK (hbox); have n3_ := aK ((by rw [hg]; exact (bSz (by repeat (first | (with_reducible first | exact HB.out | apply bAl | apply pbD | apply bD1 | refine bSt ?_ GE229.out) | exact HB.out))) : w.heap.size ≤ gb230)); have n4_ := aK ((by rw [hg]; exact (bSz (by repeat (first | (with_reducible first | exact HB.out | apply bAl | apply pbD | apply bD1 | refine bSt ?_ GE229.out) | exact HB.out))) : w.heap.size ≤ gb230)); have n5_ := aK ((by rw [hg]; exact Nat.ne_of_lt (blk_lt (g := gb229) (o := .cells #[.int .i64 a0_0, .string a0_1, .string a0_2, .int .i64 a0_3, .int .i64 a0_4] 33 (0, 0)) (by (with_reducible repeat (first | refine kDN ?_ _ | refine kDr ?_ | refine kAl ?_ _)); exact BK229.out)) : gb229 ≠ gb230)); have n6_ := aK ((by rw [hg]; exact Nat.ne_of_gt (blk_lt (g := gb229) (o := .cells #[.int .i64 a0_0, .string a0_1, .string a0_2, .int .i64 a0_3, .int .i64 a0_4] 33 (0, 0)) (by (with_reducible repeat (first | refine kDN ?_ _ | refine kDr ?_ | refine kAl ?_ _)); exact BK229.out)) : gb230 ≠ gb229)); clear BK229; clear HB; have BK229 := n0_; have HB := n1_; have BK230 := n2_; have GW230 := n3_; have GE230 := n4_; have NB229_230 := n5_; have NB230_229 := n6_; clear n0_ n1_ n2_ n3_ n4_ n5_ n6_; clear hb hbox hg))
 (try simp only [Act.put, qSa, qS0, qS1])
 go_cut [29] (fun v29 wc => ∃ (kq : Nat) (x29_2 : Bool), v29 = .bool x29_2 ∧ Aside0 (check_Clash.j0 kq x29_2 a0_0 a0_1 a0_2 a0_3 a0_4 a1_0 a1_1 a1_2 a1_3 a1_4 = some r) ∧ Aside0 (kq ≤ k) ∧ Aside0 (wc.heap[gb229]? = some (.cells #[.int .i64 a0_0, .string a0_1, .string a0_2, .int .i64 a0_3, .int .i64 a0_4] 33 (0, 0))) ∧ Aside0 (wc.heap[gb230]? = some (.cells #[.int .i64 a1_0, .string a1_1, .string a1_2, .int .i64 a1_3, .int .i64 a1_4] 33 (0, 0))) ∧ Aside0 (Below w.heap.size w wc))
 case first =>
  have H := HC3.out
  clear HC3
  by_cases c6 : a0_0 = a1_0
  rotate_left
  ·
   rw [if_neg c6] at H
   have c6b0 : (a0_0 == a1_0) = false := beq_eq_false_iff_ne.mpr c6
   have c6b1 : (a0_0 != a1_0) = true := bne_iff_ne.mpr c6
   (first | rw [c6b0] | (simp only [i64_w, i32_w]; rw [c6b0]) | skip)
   have H' := aK H
   clear H
   have hnb18 := NB229_230.out
   have hnc18 := NB230_229.out
   have hcz19_0 : w5.cell? ⟨gb229, 0, none⟩ = some (.int .i64 a0_0) := (kCe BK229.out 0).trans rfl
   have hcz19_1 : w5.cell? ⟨gb229, 1, none⟩ = some (.string a0_1) := (kCe BK229.out 1).trans rfl
   have hcz19_2 : w5.cell? ⟨gb229, 2, none⟩ = some (.string a0_2) := (kCe BK229.out 2).trans rfl
   have hcz19_3 : w5.cell? ⟨gb229, 3, none⟩ = some (.int .i64 a0_3) := (kCe BK229.out 3).trans rfl
   have hcz19_4 : w5.cell? ⟨gb229, 4, none⟩ = some (.int .i64 a0_4) := (kCe BK229.out 4).trans rfl
   have hcz20_0 : w5.cell? ⟨gb230, 0, none⟩ = some (.int .i64 a1_0) := (kCe BK230.out 0).trans rfl
   have hcz20_1 : w5.cell? ⟨gb230, 1, none⟩ = some (.string a1_1) := (kCe BK230.out 1).trans rfl
   have hcz20_2 : w5.cell? ⟨gb230, 2, none⟩ = some (.string a1_2) := (kCe BK230.out 2).trans rfl
   have hcz20_3 : w5.cell? ⟨gb230, 3, none⟩ = some (.int .i64 a1_3) := (kCe BK230.out 3).trans rfl
   have hcz20_4 : w5.cell? ⟨gb230, 4, none⟩ = some (.int .i64 a1_4) := (kCe BK230.out 4).trans rfl
   go_wp2
   go_meet
   case rel => exact ⟨_, (false), (by first | rfl | (simp; done) | (simp [*]; done)), H', ⟨by first | omega | exact Nat.le_refl _⟩, ⟨by (with_reducible repeat (first | refine kDN ?_ _ | refine kDr ?_ | refine kAl ?_ _)); exact BK229.out⟩, ⟨by (with_reducible repeat (first | refine kDN ?_ _ | refine kDr ?_ | refine kAl ?_ _)); exact BK230.out⟩, ⟨by repeat (first | (with_reducible first | exact HB.out | apply bAl | apply pbD | apply bD1 | refine bSt ?_ GE229.out | refine bSt ?_ GE230.out) | exact HB.out)⟩⟩
  rw [if_pos c6] at H
  have c6b0 : (a0_0 == a1_0) = true := beq_iff_eq.mpr c6
  have c6b1 : (a0_0 != a1_0) = false := bne_eq_false_iff_eq.mpr c6
  clear c6
  (first | rw [c6b0] | (simp only [i64_w, i32_w]; rw [c6b0]) | skip)
  by_cases c7 : a0_1.toList = a1_1.toList
  rotate_left
  ·
   rw [if_neg c7] at H
   have c7b0 : (a0_1.toList == a1_1.toList) = false := beq_eq_false_iff_ne.mpr c7
   have c7b1 : (a0_1.toList != a1_1.toList) = true := bne_iff_ne.mpr c7
   by_cases c11 : a0_0 = 5
   rotate_left
   ·
    rw [if_neg c11] at H
    have c11b0 : (a0_0 == 5) = false := beq_eq_false_iff_ne.mpr c11
    have c11b1 : (a0_0 != 5) = true := bne_iff_ne.mpr c11
    have H' := aK H
    clear H
    have hnb15 := NB229_230.out
    have hnc15 := NB230_229.out
    have hcz16_0 : w5.cell? ⟨gb229, 0, none⟩ = some (.int .i64 a0_0) := (kCe BK229.out 0).trans rfl
    have hcz16_1 : w5.cell? ⟨gb229, 1, none⟩ = some (.string a0_1) := (kCe BK229.out 1).trans rfl
    have hcz16_2 : w5.cell? ⟨gb229, 2, none⟩ = some (.string a0_2) := (kCe BK229.out 2).trans rfl
    have hcz16_3 : w5.cell? ⟨gb229, 3, none⟩ = some (.int .i64 a0_3) := (kCe BK229.out 3).trans rfl
    have hcz16_4 : w5.cell? ⟨gb229, 4, none⟩ = some (.int .i64 a0_4) := (kCe BK229.out 4).trans rfl
    have hcz17_0 : w5.cell? ⟨gb230, 0, none⟩ = some (.int .i64 a1_0) := (kCe BK230.out 0).trans rfl
    have hcz17_1 : w5.cell? ⟨gb230, 1, none⟩ = some (.string a1_1) := (kCe BK230.out 1).trans rfl
    have hcz17_2 : w5.cell? ⟨gb230, 2, none⟩ = some (.string a1_2) := (kCe BK230.out 2).trans rfl
    have hcz17_3 : w5.cell? ⟨gb230, 3, none⟩ = some (.int .i64 a1_3) := (kCe BK230.out 3).trans rfl
    have hcz17_4 : w5.cell? ⟨gb230, 4, none⟩ = some (.int .i64 a1_4) := (kCe BK230.out 4).trans rfl
    go_wp2
    go_meet
    case rel => exact ⟨_, (false), (by first | rfl | (simp; done) | (simp [*]; done)), H', ⟨by first | omega | exact Nat.le_refl _⟩, ⟨by (with_reducible repeat (first | refine kDN ?_ _ | refine kDr ?_ | refine kAl ?_ _)); exact BK229.out⟩, ⟨by (with_reducible repeat (first | refine kDN ?_ _ | refine kDr ?_ | refine kAl ?_ _)); exact BK230.out⟩, ⟨by repeat (first | (with_reducible first | exact HB.out | apply bAl | apply pbD | apply bD1 | refine bSt ?_ GE229.out | refine bSt ?_ GE230.out) | exact HB.out)⟩⟩
   rw [if_pos c11] at H
   have c11b0 : (a0_0 == 5) = true := beq_iff_eq.mpr c11
   have c11b1 : (a0_0 != 5) = false := bne_eq_false_iff_eq.mpr c11
   clear c11
   have H' := aK H
   clear H
   have hnb12 := NB229_230.out
   have hnc12 := NB230_229.out
   have hcz13_0 : w5.cell? ⟨gb229, 0, none⟩ = some (.int .i64 a0_0) := (kCe BK229.out 0).trans rfl
   have hcz13_1 : w5.cell? ⟨gb229, 1, none⟩ = some (.string a0_1) := (kCe BK229.out 1).trans rfl
   have hcz13_2 : w5.cell? ⟨gb229, 2, none⟩ = some (.string a0_2) := (kCe BK229.out 2).trans rfl
   have hcz13_3 : w5.cell? ⟨gb229, 3, none⟩ = some (.int .i64 a0_3) := (kCe BK229.out 3).trans rfl
   have hcz13_4 : w5.cell? ⟨gb229, 4, none⟩ = some (.int .i64 a0_4) := (kCe BK229.out 4).trans rfl
   have hcz14_0 : w5.cell? ⟨gb230, 0, none⟩ = some (.int .i64 a1_0) := (kCe BK230.out 0).trans rfl
   have hcz14_1 : w5.cell? ⟨gb230, 1, none⟩ = some (.string a1_1) := (kCe BK230.out 1).trans rfl
   have hcz14_2 : w5.cell? ⟨gb230, 2, none⟩ = some (.string a1_2) := (kCe BK230.out 2).trans rfl
   have hcz14_3 : w5.cell? ⟨gb230, 3, none⟩ = some (.int .i64 a1_3) := (kCe BK230.out 3).trans rfl
   have hcz14_4 : w5.cell? ⟨gb230, 4, none⟩ = some (.int .i64 a1_4) := (kCe BK230.out 4).trans rfl
   go_wp2
   go_meet
   case rel => exact ⟨_, ((a0_2.toList == a1_2.toList)), (by first | rfl | (simp; done) | (simp [*]; done)), H', ⟨by first | omega | exact Nat.le_refl _⟩, ⟨by (with_reducible repeat (first | refine kDN ?_ _ | refine kDr ?_ | refine kAl ?_ _)); exact BK229.out⟩, ⟨by (with_reducible repeat (first | refine kDN ?_ _ | refine kDr ?_ | refine kAl ?_ _)); exact BK230.out⟩, ⟨by repeat (first | (with_reducible first | exact HB.out | apply bAl | apply pbD | apply bD1 | refine bSt ?_ GE229.out | refine bSt ?_ GE230.out) | exact HB.out)⟩⟩
  rw [if_pos c7] at H
  have c7b0 : (a0_1.toList == a1_1.toList) = true := beq_iff_eq.mpr c7
  have c7b1 : (a0_1.toList != a1_1.toList) = false := bne_eq_false_iff_eq.mpr c7
  clear c7
  have H' := aK H
  clear H
  have hnb8 := NB229_230.out
  have hnc8 := NB230_229.out
  have hcz9_0 : w5.cell? ⟨gb229, 0, none⟩ = some (.int .i64 a0_0) := (kCe BK229.out 0).trans rfl
  have hcz9_1 : w5.cell? ⟨gb229, 1, none⟩ = some (.string a0_1) := (kCe BK229.out 1).trans rfl
  have hcz9_2 : w5.cell? ⟨gb229, 2, none⟩ = some (.string a0_2) := (kCe BK229.out 2).trans rfl
  have hcz9_3 : w5.cell? ⟨gb229, 3, none⟩ = some (.int .i64 a0_3) := (kCe BK229.out 3).trans rfl
  have hcz9_4 : w5.cell? ⟨gb229, 4, none⟩ = some (.int .i64 a0_4) := (kCe BK229.out 4).trans rfl
  have hcz10_0 : w5.cell? ⟨gb230, 0, none⟩ = some (.int .i64 a1_0) := (kCe BK230.out 0).trans rfl
  have hcz10_1 : w5.cell? ⟨gb230, 1, none⟩ = some (.string a1_1) := (kCe BK230.out 1).trans rfl
  have hcz10_2 : w5.cell? ⟨gb230, 2, none⟩ = some (.string a1_2) := (kCe BK230.out 2).trans rfl
  have hcz10_3 : w5.cell? ⟨gb230, 3, none⟩ = some (.int .i64 a1_3) := (kCe BK230.out 3).trans rfl
  have hcz10_4 : w5.cell? ⟨gb230, 4, none⟩ = some (.int .i64 a1_4) := (kCe BK230.out 4).trans rfl
  go_wp2
  go_meet
  case rel => exact ⟨_, (true), (by first | rfl | (simp; done) | (simp [*]; done)), H', ⟨by first | omega | exact Nat.le_refl _⟩, ⟨by (with_reducible repeat (first | refine kDN ?_ _ | refine kDr ?_ | refine kAl ?_ _)); exact BK229.out⟩, ⟨by (with_reducible repeat (first | refine kDN ?_ _ | refine kDr ?_ | refine kAl ?_ _)); exact BK230.out⟩, ⟨by repeat (first | (with_reducible first | exact HB.out | apply bAl | apply pbD | apply bD1 | refine bSt ?_ GE229.out | refine bSt ?_ GE230.out) | exact HB.out)⟩⟩
 case rest =>
  clear HC3
  try clear c1
  try clear p2
  try clear c4
  try clear c6
  try clear c6b0
  try clear c6b1
  try clear c7
  try clear c7b0
  try clear c7b1
  try clear c8
  try clear c11
  try clear c11b0
  try clear c11b1
  try clear c12
  try clear c15
  try clear c18
  try clear hcz10_0
  try clear hcz10_1
  try clear hcz10_2
  try clear hcz10_3
  try clear hcz10_4
  try clear hcz13_0
  try clear hcz13_1
  try clear hcz13_2
  try clear hcz13_3
  try clear hcz13_4
  try clear hcz14_0
  try clear hcz14_1
  try clear hcz14_2
  try clear hcz14_3
  try clear hcz14_4
  try clear hcz16_0
  try clear hcz16_1
  try clear hcz16_2
  try clear hcz16_3
  try clear hcz16_4
  try clear hcz17_0
  try clear hcz17_1
  try clear hcz17_2
  try clear hcz17_3
  try clear hcz17_4
  try clear hcz19_0
  try clear hcz19_1
  try clear hcz19_2
  try clear hcz19_3
  try clear hcz19_4
  try clear hcz20_0
  try clear hcz20_1
  try clear hcz20_2
  try clear hcz20_3
  try clear hcz20_4
  try clear hcz9_0
  try clear hcz9_1
  try clear hcz9_2
  try clear hcz9_3
  try clear hcz9_4
  obtain ⟨kq, x29_2, rfl, HA, HJ2, BK229, BK230, HB⟩ := hcut
  cases kq with
  | zero => exact absurd HA.out (by simp [check_Clash.j0])
  | succ kj2 =>
   have H := HA.out
   clear HA
   simp only [check_Clash.j0] at H
   by_cases c21 : x29_2 = true
   rotate_left
   ·
    replace c21 := Bool.eq_false_iff.mpr c21
    subst c21
    have H1 : (check_Clash.l0 kj2 1 a0_0 a0_1 a0_2 a0_3 a0_4 a1_0 a1_1 a1_2 a1_3 a1_4) = some r := by rw [if_neg (show ¬ (false = true) by decide)] at H; exact H
    clear H
    have H := H1
    clear H1
    have H' := aK H
    clear H
    go_wp2
    go_loopg [5] kj2 (fun kq v5 w' => ∃ (x5_2 : Int), v5 = .int .i64 x5_2 ∧ Aside0 (check_Clash.l0 kq x5_2 a0_0 a0_1 a0_2 a0_3 a0_4 a1_0 a1_1 a1_2 a1_3 a1_4 = some r) ∧ Aside0 (kq ≤ kj2) ∧ Aside0 (w'.heap[gb229]? = some (.cells #[.int .i64 a0_0, .string a0_1, .string a0_2, .int .i64 a0_3, .int .i64 a0_4] 33 (0, 0))) ∧ Aside0 (w'.heap[gb230]? = some (.cells #[.int .i64 a1_0, .string a1_1, .string a1_2, .int .i64 a1_3, .int .i64 a1_4] 33 (0, 0))) ∧ Aside0 (Below w.heap.size w w'))
    case atStart => exact ⟨(1), (by first | rfl | (simp; done) | (simp [*]; done)), H', ⟨Nat.le_refl _⟩, ⟨by (with_reducible repeat (first | refine kDN ?_ _ | refine kDr ?_ | refine kAl ?_ _)); exact BK229.out⟩, ⟨by (with_reducible repeat (first | refine kDN ?_ _ | refine kDr ?_ | refine kAl ?_ _)); exact BK230.out⟩, ⟨by repeat (first | (with_reducible first | exact HB.out | apply bAl | apply pbD | apply bD1 | refine bSt ?_ GE229.out | refine bSt ?_ GE230.out) | exact HB.out)⟩⟩
    case round =>
     clear H'
     try clear c1
     try clear c2
     try clear p2
     try clear c4
     try clear c6
     try clear c6b0
     try clear c6b1
     try clear c7
     try clear c7b0
     try clear c7b1
     try clear c8
     try clear c11
     try clear c11b0
     try clear c11b1
     try clear c12
     try clear c15
     try clear c18
     try clear c21
     try clear hcz10_0
     try clear hcz10_1
     try clear hcz10_2
     try clear hcz10_3
     try clear hcz10_4
     try clear hcz13_0
     try clear hcz13_1
     try clear hcz13_2
     try clear hcz13_3
     try clear hcz13_4
     try clear hcz14_0
     try clear hcz14_1
     try clear hcz14_2
     try clear hcz14_3
     try clear hcz14_4
     try clear hcz16_0
     try clear hcz16_1
     try clear hcz16_2
     try clear hcz16_3
     try clear hcz16_4
     try clear hcz17_0
     try clear hcz17_1
     try clear hcz17_2
     try clear hcz17_3
     try clear hcz17_4
     try clear hcz19_0
     try clear hcz19_1
     try clear hcz19_2
     try clear hcz19_3
     try clear hcz19_4
     try clear hcz20_0
     try clear hcz20_1
     try clear hcz20_2
     try clear hcz20_3
     try clear hcz20_4
     try clear hcz9_0
     try clear hcz9_1
     try clear hcz9_2
     try clear hcz9_3
     try clear hcz9_4
     try clear p2
     obtain ⟨x5_2, rfl, HA, HK2, BK229, BK230, HB⟩ := hrel
     cases gk with
     | zero => exact absurd HA.out (by simp [check_Clash.l0])
     | succ k2 =>
      have H := HA.out
      clear HA
      simp only [check_Clash.l0] at H
      by_cases c22 : x5_2 ≤ 3
      rotate_left
      ·
       rw [if_neg c22] at H
       have c22b0 : decide (x5_2 ≤ 3) = false := decide_eq_false c22
       clear c22
       replace H := oB H
       obtain ⟨t231, A510, H⟩ := H
       try dsimp only at H
       have A51 := aK A510
       clear A510
       by_cases c52 : t231 = true
       rotate_left
       ·
        replace c52 := Bool.eq_false_iff.mpr c52
        subst c52
        have H1 : ((check_spoils.f k2 a1_0 a1_1 a1_2 a1_3 a1_4 a0_0 a0_1 a0_2 a0_3 a0_4).bind fun t232 => (some t232)) = some r := by rw [if_neg (show ¬ (false = true) by decide)] at H; exact H
        clear H
        have H := H1
        clear H1
        replace H := oB H
        obtain ⟨t232, A570, H⟩ := H
        replace H : (some t232) = some r := H
        have A57 := aK A570
        clear A570
        obtain rfl := oI H
        have hnb58 := NB229_230.out
        have hnc58 := NB230_229.out
        have hcz59_0 : wr.cell? ⟨gb229, 0, none⟩ = some (.int .i64 a0_0) := (kCe BK229.out 0).trans rfl
        have hcz59_1 : wr.cell? ⟨gb229, 1, none⟩ = some (.string a0_1) := (kCe BK229.out 1).trans rfl
        have hcz59_2 : wr.cell? ⟨gb229, 2, none⟩ = some (.string a0_2) := (kCe BK229.out 2).trans rfl
        have hcz59_3 : wr.cell? ⟨gb229, 3, none⟩ = some (.int .i64 a0_3) := (kCe BK229.out 3).trans rfl
        have hcz59_4 : wr.cell? ⟨gb229, 4, none⟩ = some (.int .i64 a0_4) := (kCe BK229.out 4).trans rfl
        have hcz60_0 : wr.cell? ⟨gb230, 0, none⟩ = some (.int .i64 a1_0) := (kCe BK230.out 0).trans rfl
        have hcz60_1 : wr.cell? ⟨gb230, 1, none⟩ = some (.string a1_1) := (kCe BK230.out 1).trans rfl
        have hcz60_2 : wr.cell? ⟨gb230, 2, none⟩ = some (.string a1_2) := (kCe BK230.out 2).trans rfl
        have hcz60_3 : wr.cell? ⟨gb230, 3, none⟩ = some (.int .i64 a1_3) := (kCe BK230.out 3).trans rfl
        have hcz60_4 : wr.cell? ⟨gb230, 4, none⟩ = some (.int .i64 a1_4) := (kCe BK230.out 4).trans rfl
        go_wp2_with (first | ((with_reducible refine gate_callee (f := 65) rfl ?_); refine goesL_ (some 51) rfl rfl Try.func65 (by kernel_rfl) rfl #[.agg #[.int .i64 a0_0, .string a0_1, .string a0_2, .int .i64 a0_3, .int .i64 a0_4], .agg #[.int .i64 a1_0, .string a1_1, .string a1_2, .int .i64 a1_3, .int .i64 a1_4]] rfl (by (try simp only [qM0, qM1, qM2]); first | done | rfl | (simp only [qD0, qD1]; rfl)) ?_; (with_reducible refine (check_spoils.calls k2 a0_0 a0_1 a0_2 a0_3 a0_4 a1_0 a1_1 a1_2 a1_3 a1_4 false _ A51.out).mono ?_); rintro e w61 ⟨rfl, hb⟩; refine ⟨_, rfl, ?_⟩; have n0_ := aK (kBe (g := gb229) (o := .cells #[.int .i64 a0_0, .string a0_1, .string a0_2, .int .i64 a0_3, .int .i64 a0_4] 33 (0, 0)) (by (with_reducible repeat (first | refine kDN ?_ _ | refine kDr ?_ | refine kAl ?_ _)); exact BK229.out) hb); have n1_ := aK (kBe (g := gb230) (o := .cells #[.int .i64 a1_0, .string a1_1, .string a1_2, .int .i64 a1_3, .int .i64 a1_4] 33 (0, 0)) (by (with_reducible repeat (first | refine kDN ?_ _ | refine kDr ?_ | refine kAl ?_ _)); exact BK230.out) hb); have n2_ := aK (bSp (by repeat (first | (with_reducible first | exact HB.out | apply bAl | apply pbD | apply bD1 | refine bSt ?_ GE229.out | refine bSt ?_ GE230.out) | exact HB.out)) hb); clear BK229; clear BK230; clear HB; have BK229 := n0_; have BK230 := n1_; have HB := n2_; clear n0_ n1_ n2_; (try clear hb); (try clear hb2); (try clear hk); (try clear hi); have hcz62_0 : w61.cell? ⟨gb230, 0, none⟩ = some (.int .i64 a1_0) := (kCe BK230.out 0).trans rfl; have hcz62_1 : w61.cell? ⟨gb230, 1, none⟩ = some (.string a1_1) := (kCe BK230.out 1).trans rfl; have hcz62_2 : w61.cell? ⟨gb230, 2, none⟩ = some (.string a1_2) := (kCe BK230.out 2).trans rfl; have hcz62_3 : w61.cell? ⟨gb230, 3, none⟩ = some (.int .i64 a1_3) := (kCe BK230.out 3).trans rfl; have hcz62_4 : w61.cell? ⟨gb230, 4, none⟩ = some (.int .i64 a1_4) := (kCe BK230.out 4).trans rfl; have hcz63_0 : w61.cell? ⟨gb229, 0, none⟩ = some (.int .i64 a0_0) := (kCe BK229.out 0).trans rfl; have hcz63_1 : w61.cell? ⟨gb229, 1, none⟩ = some (.string a0_1) := (kCe BK229.out 1).trans rfl; have hcz63_2 : w61.cell? ⟨gb229, 2, none⟩ = some (.string a0_2) := (kCe BK229.out 2).trans rfl; have hcz63_3 : w61.cell? ⟨gb229, 3, none⟩ = some (.int .i64 a0_3) := (kCe BK229.out 3).trans rfl; have hcz63_4 : w61.cell? ⟨gb229, 4, none⟩ = some (.int .i64 a0_4) := (kCe BK229.out 4).trans rfl) | (go_at_call 65; (with_reducible refine (check_spoils.calls k2 a1_0 a1_1 a1_2 a1_3 a1_4 a0_0 a0_1 a0_2 a0_3 a0_4 t232 _ A57.out).mono ?_); rintro e w64 ⟨rfl, hb⟩; have n0_ := aK (kBe (g := gb229) (o := .cells #[.int .i64 a0_0, .string a0_1, .string a0_2, .int .i64 a0_3, .int .i64 a0_4] 33 (0, 0)) (by (with_reducible repeat (first | refine kDN ?_ _ | refine kDr ?_ | refine kAl ?_ _)); exact BK229.out) hb); have n1_ := aK (kBe (g := gb230) (o := .cells #[.int .i64 a1_0, .string a1_1, .string a1_2, .int .i64 a1_3, .int .i64 a1_4] 33 (0, 0)) (by (with_reducible repeat (first | refine kDN ?_ _ | refine kDr ?_ | refine kAl ?_ _)); exact BK230.out) hb); have n2_ := aK (bSp (by repeat (first | (with_reducible first | exact HB.out | apply bAl | apply pbD | apply bD1 | refine bSt ?_ GE229.out | refine bSt ?_ GE230.out) | exact HB.out)) hb); clear BK229; clear BK230; clear HB; have BK229 := n0_; have BK230 := n1_; have HB := n2_; clear n0_ n1_ n2_; (try clear hb); (try clear hb2); (try clear hk); (try clear hi)))
        go_ret
        exact ⟨by first | rfl | (simp [eWn, eWs] <;> rfl) | (simp [*, eWn, eWs] <;> rfl), by repeat (first | (with_reducible first | exact HB.out | apply bAl | apply pbD | apply bD1 | refine bSt ?_ GE229.out | refine bSt ?_ GE230.out) | exact HB.out)⟩
       subst c52
       have H1 : (some true) = some r := by rw [if_pos rfl] at H; exact H
       clear H
       have H := H1
       clear H1
       obtain rfl := oI H
       have hnb53 := NB229_230.out
       have hnc53 := NB230_229.out
       have hcz54_0 : wr.cell? ⟨gb229, 0, none⟩ = some (.int .i64 a0_0) := (kCe BK229.out 0).trans rfl
       have hcz54_1 : wr.cell? ⟨gb229, 1, none⟩ = some (.string a0_1) := (kCe BK229.out 1).trans rfl
       have hcz54_2 : wr.cell? ⟨gb229, 2, none⟩ = some (.string a0_2) := (kCe BK229.out 2).trans rfl
       have hcz54_3 : wr.cell? ⟨gb229, 3, none⟩ = some (.int .i64 a0_3) := (kCe BK229.out 3).trans rfl
       have hcz54_4 : wr.cell? ⟨gb229, 4, none⟩ = some (.int .i64 a0_4) := (kCe BK229.out 4).trans rfl
       have hcz55_0 : wr.cell? ⟨gb230, 0, none⟩ = some (.int .i64 a1_0) := (kCe BK230.out 0).trans rfl
       have hcz55_1 : wr.cell? ⟨gb230, 1, none⟩ = some (.string a1_1) := (kCe BK230.out 1).trans rfl
       have hcz55_2 : wr.cell? ⟨gb230, 2, none⟩ = some (.string a1_2) := (kCe BK230.out 2).trans rfl
       have hcz55_3 : wr.cell? ⟨gb230, 3, none⟩ = some (.int .i64 a1_3) := (kCe BK230.out 3).trans rfl
       have hcz55_4 : wr.cell? ⟨gb230, 4, none⟩ = some (.int .i64 a1_4) := (kCe BK230.out 4).trans rfl
       go_wp2_with (first | ((with_reducible refine gate_callee (f := 65) rfl ?_); refine goesL_ (some 51) rfl rfl Try.func65 (by kernel_rfl) rfl #[.agg #[.int .i64 a0_0, .string a0_1, .string a0_2, .int .i64 a0_3, .int .i64 a0_4], .agg #[.int .i64 a1_0, .string a1_1, .string a1_2, .int .i64 a1_3, .int .i64 a1_4]] rfl (by (try simp only [qM0, qM1, qM2]); first | done | rfl | (simp only [qD0, qD1]; rfl)) ?_; (with_reducible refine (check_spoils.calls k2 a0_0 a0_1 a0_2 a0_3 a0_4 a1_0 a1_1 a1_2 a1_3 a1_4 true _ A51.out).mono ?_); rintro e w56 ⟨rfl, hb⟩; refine ⟨_, rfl, ?_⟩; have n0_ := aK (kBe (g := gb229) (o := .cells #[.int .i64 a0_0, .string a0_1, .string a0_2, .int .i64 a0_3, .int .i64 a0_4] 33 (0, 0)) (by (with_reducible repeat (first | refine kDN ?_ _ | refine kDr ?_ | refine kAl ?_ _)); exact BK229.out) hb); have n1_ := aK (kBe (g := gb230) (o := .cells #[.int .i64 a1_0, .string a1_1, .string a1_2, .int .i64 a1_3, .int .i64 a1_4] 33 (0, 0)) (by (with_reducible repeat (first | refine kDN ?_ _ | refine kDr ?_ | refine kAl ?_ _)); exact BK230.out) hb); have n2_ := aK (bSp (by repeat (first | (with_reducible first | exact HB.out | apply bAl | apply pbD | apply bD1 | refine bSt ?_ GE229.out | refine bSt ?_ GE230.out) | exact HB.out)) hb); clear BK229; clear BK230; clear HB; have BK229 := n0_; have BK230 := n1_; have HB := n2_; clear n0_ n1_ n2_; (try clear hb); (try clear hb2); (try clear hk); (try clear hi)))
       go_ret
       exact ⟨by first | rfl | (simp [eWn, eWs] <;> rfl) | (simp [*, eWn, eWs] <;> rfl), by repeat (first | (with_reducible first | exact HB.out | apply bAl | apply pbD | apply bD1 | refine bSt ?_ GE229.out | refine bSt ?_ GE230.out) | exact HB.out)⟩
      rw [if_pos c22] at H
      have c22b0 : decide (x5_2 ≤ 3) = true := decide_eq_true c22
      clear c22
      replace H := oB H
      obtain ⟨t233, A230, H⟩ := H
      try dsimp only at H
      have A23 := aK A230
      clear A230
      by_cases c24 : t233 = true
      rotate_left
      ·
       replace c24 := Bool.eq_false_iff.mpr c24
       subst c24
       have H1 : (check_Clash.l0 k2 (wrap64 (x5_2 + 1)) a0_0 a0_1 a0_2 a0_3 a0_4 a1_0 a1_1 a1_2 a1_3 a1_4) = some r := by rw [if_neg (show ¬ (false = true) by decide)] at H; exact H
       clear H
       have H := H1
       clear H1
       have H' := aK H
       clear H
       have hnb48 := NB229_230.out
       have hnc48 := NB230_229.out
       have hcz49_0 : wr.cell? ⟨gb229, 0, none⟩ = some (.int .i64 a0_0) := (kCe BK229.out 0).trans rfl
       have hcz49_1 : wr.cell? ⟨gb229, 1, none⟩ = some (.string a0_1) := (kCe BK229.out 1).trans rfl
       have hcz49_2 : wr.cell? ⟨gb229, 2, none⟩ = some (.string a0_2) := (kCe BK229.out 2).trans rfl
       have hcz49_3 : wr.cell? ⟨gb229, 3, none⟩ = some (.int .i64 a0_3) := (kCe BK229.out 3).trans rfl
       have hcz49_4 : wr.cell? ⟨gb229, 4, none⟩ = some (.int .i64 a0_4) := (kCe BK229.out 4).trans rfl
       go_wp2_with (first | ((with_reducible refine gate_callee (f := 12) rfl ?_); refine goesL_ (some 36) rfl rfl Try.func12 (by kernel_rfl) rfl #[.agg #[.int .i64 a0_0, .string a0_1, .string a0_2, .int .i64 a0_3, .int .i64 a0_4], .int .i64 x5_2] rfl (by (try simp only [qM0, qM1, qM2]); first | done | rfl | (simp only [qD0, qD1]; rfl)) ?_; (with_reducible refine (check_In.calls k2 a0_0 a0_1 a0_2 a0_3 a0_4 x5_2 false _ A23.out).mono ?_); rintro e w50 ⟨rfl, hb⟩; refine ⟨_, rfl, ?_⟩; have n0_ := aK (kBe (g := gb229) (o := .cells #[.int .i64 a0_0, .string a0_1, .string a0_2, .int .i64 a0_3, .int .i64 a0_4] 33 (0, 0)) (by (with_reducible repeat (first | refine kDN ?_ _ | refine kDr ?_ | refine kAl ?_ _)); exact BK229.out) hb); have n1_ := aK (kBe (g := gb230) (o := .cells #[.int .i64 a1_0, .string a1_1, .string a1_2, .int .i64 a1_3, .int .i64 a1_4] 33 (0, 0)) (by (with_reducible repeat (first | refine kDN ?_ _ | refine kDr ?_ | refine kAl ?_ _)); exact BK230.out) hb); have n2_ := aK (bSp (by repeat (first | (with_reducible first | exact HB.out | apply bAl | apply pbD | apply bD1 | refine bSt ?_ GE229.out | refine bSt ?_ GE230.out) | exact HB.out)) hb); clear BK229; clear BK230; clear HB; have BK229 := n0_; have BK230 := n1_; have HB := n2_; clear n0_ n1_ n2_; (try clear hb); (try clear hb2); (try clear hk); (try clear hi)))
       go_roundg k2
       case measure => have := HJ2.out; have := HK2.out; omega
       case rel => exact ⟨(wrap64 (x5_2 + 1)), (by first | rfl | (simp; done) | (simp [*]; done)), H', ⟨by have := HJ2.out; have := HK2.out; omega⟩, ⟨by (with_reducible repeat (first | refine kDN ?_ _ | refine kDr ?_ | refine kAl ?_ _)); exact BK229.out⟩, ⟨by (with_reducible repeat (first | refine kDN ?_ _ | refine kDr ?_ | refine kAl ?_ _)); exact BK230.out⟩, ⟨by repeat (first | (with_reducible first | exact HB.out | apply bAl | apply pbD | apply bD1 | refine bSt ?_ GE229.out | refine bSt ?_ GE230.out) | exact HB.out)⟩⟩
      subst c24
      have H1 : ((check_In.f k2 a1_0 a1_1 a1_2 a1_3 a1_4 x5_2).bind fun t234 => (if t234 = true then ((check_begins.f a0_2 a1_2).bind fun t235 => (if t235 = true then (some true) else (check_Clash.l0 k2 (wrap64 (x5_2 + 1)) a0_0 a0_1 a0_2 a0_3 a0_4 a1_0 a1_1 a1_2 a1_3 a1_4))) else (check_Clash.l0 k2 (wrap64 (x5_2 + 1)) a0_0 a0_1 a0_2 a0_3 a0_4 a1_0 a1_1 a1_2 a1_3 a1_4))) = some r := by rw [if_pos rfl] at H; exact H
      clear H
      have H := H1
      clear H1
      replace H := oB H
      obtain ⟨t234, A250, H⟩ := H
      try dsimp only at H
      have A25 := aK A250
      clear A250
      by_cases c26 : t234 = true
      rotate_left
      ·
       replace c26 := Bool.eq_false_iff.mpr c26
       subst c26
       have H1 : (check_Clash.l0 k2 (wrap64 (x5_2 + 1)) a0_0 a0_1 a0_2 a0_3 a0_4 a1_0 a1_1 a1_2 a1_3 a1_4) = some r := by rw [if_neg (show ¬ (false = true) by decide)] at H; exact H
       clear H
       have H := H1
       clear H1
       have H' := aK H
       clear H
       have hnb43 := NB229_230.out
       have hnc43 := NB230_229.out
       have hcz44_0 : wr.cell? ⟨gb229, 0, none⟩ = some (.int .i64 a0_0) := (kCe BK229.out 0).trans rfl
       have hcz44_1 : wr.cell? ⟨gb229, 1, none⟩ = some (.string a0_1) := (kCe BK229.out 1).trans rfl
       have hcz44_2 : wr.cell? ⟨gb229, 2, none⟩ = some (.string a0_2) := (kCe BK229.out 2).trans rfl
       have hcz44_3 : wr.cell? ⟨gb229, 3, none⟩ = some (.int .i64 a0_3) := (kCe BK229.out 3).trans rfl
       have hcz44_4 : wr.cell? ⟨gb229, 4, none⟩ = some (.int .i64 a0_4) := (kCe BK229.out 4).trans rfl
       go_wp2_with (first | ((with_reducible refine gate_callee (f := 12) rfl ?_); refine goesL_ (some 36) rfl rfl Try.func12 (by kernel_rfl) rfl #[.agg #[.int .i64 a0_0, .string a0_1, .string a0_2, .int .i64 a0_3, .int .i64 a0_4], .int .i64 x5_2] rfl (by (try simp only [qM0, qM1, qM2]); first | done | rfl | (simp only [qD0, qD1]; rfl)) ?_; (with_reducible refine (check_In.calls k2 a0_0 a0_1 a0_2 a0_3 a0_4 x5_2 true _ A23.out).mono ?_); rintro e w45 ⟨rfl, hb⟩; refine ⟨_, rfl, ?_⟩; have n0_ := aK (kBe (g := gb229) (o := .cells #[.int .i64 a0_0, .string a0_1, .string a0_2, .int .i64 a0_3, .int .i64 a0_4] 33 (0, 0)) (by (with_reducible repeat (first | refine kDN ?_ _ | refine kDr ?_ | refine kAl ?_ _)); exact BK229.out) hb); have n1_ := aK (kBe (g := gb230) (o := .cells #[.int .i64 a1_0, .string a1_1, .string a1_2, .int .i64 a1_3, .int .i64 a1_4] 33 (0, 0)) (by (with_reducible repeat (first | refine kDN ?_ _ | refine kDr ?_ | refine kAl ?_ _)); exact BK230.out) hb); have n2_ := aK (bSp (by repeat (first | (with_reducible first | exact HB.out | apply bAl | apply pbD | apply bD1 | refine bSt ?_ GE229.out | refine bSt ?_ GE230.out) | exact HB.out)) hb); clear BK229; clear BK230; clear HB; have BK229 := n0_; have BK230 := n1_; have HB := n2_; clear n0_ n1_ n2_; (try clear hb); (try clear hb2); (try clear hk); (try clear hi); have hcz46_0 : w45.cell? ⟨gb230, 0, none⟩ = some (.int .i64 a1_0) := (kCe BK230.out 0).trans rfl; have hcz46_1 : w45.cell? ⟨gb230, 1, none⟩ = some (.string a1_1) := (kCe BK230.out 1).trans rfl; have hcz46_2 : w45.cell? ⟨gb230, 2, none⟩ = some (.string a1_2) := (kCe BK230.out 2).trans rfl; have hcz46_3 : w45.cell? ⟨gb230, 3, none⟩ = some (.int .i64 a1_3) := (kCe BK230.out 3).trans rfl; have hcz46_4 : w45.cell? ⟨gb230, 4, none⟩ = some (.int .i64 a1_4) := (kCe BK230.out 4).trans rfl) | (go_at_call 12; (with_reducible refine (check_In.calls k2 a1_0 a1_1 a1_2 a1_3 a1_4 x5_2 false _ A25.out).mono ?_); rintro e w47 ⟨rfl, hb⟩; have n0_ := aK (kBe (g := gb229) (o := .cells #[.int .i64 a0_0, .string a0_1, .string a0_2, .int .i64 a0_3, .int .i64 a0_4] 33 (0, 0)) (by (with_reducible repeat (first | refine kDN ?_ _ | refine kDr ?_ | refine kAl ?_ _)); exact BK229.out) hb); have n1_ := aK (kBe (g := gb230) (o := .cells #[.int .i64 a1_0, .string a1_1, .string a1_2, .int .i64 a1_3, .int .i64 a1_4] 33 (0, 0)) (by (with_reducible repeat (first | refine kDN ?_ _ | refine kDr ?_ | refine kAl ?_ _)); exact BK230.out) hb); have n2_ := aK (bSp (by repeat (first | (with_reducible first | exact HB.out | apply bAl | apply pbD | apply bD1 | refine bSt ?_ GE229.out | refine bSt ?_ GE230.out) | exact HB.out)) hb); clear BK229; clear BK230; clear HB; have BK229 := n0_; have BK230 := n1_; have HB := n2_; clear n0_ n1_ n2_; (try clear hb); (try clear hb2); (try clear hk); (try clear hi)))
       go_roundg k2
       case measure => have := HJ2.out; have := HK2.out; omega
       case rel => exact ⟨(wrap64 (x5_2 + 1)), (by first | rfl | (simp; done) | (simp [*]; done)), H', ⟨by have := HJ2.out; have := HK2.out; omega⟩, ⟨by (with_reducible repeat (first | refine kDN ?_ _ | refine kDr ?_ | refine kAl ?_ _)); exact BK229.out⟩, ⟨by (with_reducible repeat (first | refine kDN ?_ _ | refine kDr ?_ | refine kAl ?_ _)); exact BK230.out⟩, ⟨by repeat (first | (with_reducible first | exact HB.out | apply bAl | apply pbD | apply bD1 | refine bSt ?_ GE229.out | refine bSt ?_ GE230.out) | exact HB.out)⟩⟩
      subst c26
      have H1 : ((check_begins.f a0_2 a1_2).bind fun t235 => (if t235 = true then (some true) else (check_Clash.l0 k2 (wrap64 (x5_2 + 1)) a0_0 a0_1 a0_2 a0_3 a0_4 a1_0 a1_1 a1_2 a1_3 a1_4))) = some r := by rw [if_pos rfl] at H; exact H
      clear H
      have H := H1
      clear H1
      replace H := oB H
      obtain ⟨t235, A270, H⟩ := H
      try dsimp only at H
      have A27 := aK A270
      clear A270
      by_cases c28 : t235 = true
      rotate_left
      ·
       replace c28 := Bool.eq_false_iff.mpr c28
       subst c28
       have H1 : (check_Clash.l0 k2 (wrap64 (x5_2 + 1)) a0_0 a0_1 a0_2 a0_3 a0_4 a1_0 a1_1 a1_2 a1_3 a1_4) = some r := by rw [if_neg (show ¬ (false = true) by decide)] at H; exact H
       clear H
       have H := H1
       clear H1
       have H' := aK H
       clear H
       have hnb36 := NB229_230.out
       have hnc36 := NB230_229.out
       have hcz37_0 : wr.cell? ⟨gb229, 0, none⟩ = some (.int .i64 a0_0) := (kCe BK229.out 0).trans rfl
       have hcz37_1 : wr.cell? ⟨gb229, 1, none⟩ = some (.string a0_1) := (kCe BK229.out 1).trans rfl
       have hcz37_2 : wr.cell? ⟨gb229, 2, none⟩ = some (.string a0_2) := (kCe BK229.out 2).trans rfl
       have hcz37_3 : wr.cell? ⟨gb229, 3, none⟩ = some (.int .i64 a0_3) := (kCe BK229.out 3).trans rfl
       have hcz37_4 : wr.cell? ⟨gb229, 4, none⟩ = some (.int .i64 a0_4) := (kCe BK229.out 4).trans rfl
       go_wp2_with (first | ((with_reducible refine gate_callee (f := 12) rfl ?_); refine goesL_ (some 36) rfl rfl Try.func12 (by kernel_rfl) rfl #[.agg #[.int .i64 a0_0, .string a0_1, .string a0_2, .int .i64 a0_3, .int .i64 a0_4], .int .i64 x5_2] rfl (by (try simp only [qM0, qM1, qM2]); first | done | rfl | (simp only [qD0, qD1]; rfl)) ?_; (with_reducible refine (check_In.calls k2 a0_0 a0_1 a0_2 a0_3 a0_4 x5_2 true _ A23.out).mono ?_); rintro e w38 ⟨rfl, hb⟩; refine ⟨_, rfl, ?_⟩; have n0_ := aK (kBe (g := gb229) (o := .cells #[.int .i64 a0_0, .string a0_1, .string a0_2, .int .i64 a0_3, .int .i64 a0_4] 33 (0, 0)) (by (with_reducible repeat (first | refine kDN ?_ _ | refine kDr ?_ | refine kAl ?_ _)); exact BK229.out) hb); have n1_ := aK (kBe (g := gb230) (o := .cells #[.int .i64 a1_0, .string a1_1, .string a1_2, .int .i64 a1_3, .int .i64 a1_4] 33 (0, 0)) (by (with_reducible repeat (first | refine kDN ?_ _ | refine kDr ?_ | refine kAl ?_ _)); exact BK230.out) hb); have n2_ := aK (bSp (by repeat (first | (with_reducible first | exact HB.out | apply bAl | apply pbD | apply bD1 | refine bSt ?_ GE229.out | refine bSt ?_ GE230.out) | exact HB.out)) hb); clear BK229; clear BK230; clear HB; have BK229 := n0_; have BK230 := n1_; have HB := n2_; clear n0_ n1_ n2_; (try clear hb); (try clear hb2); (try clear hk); (try clear hi); have hcz39_0 : w38.cell? ⟨gb230, 0, none⟩ = some (.int .i64 a1_0) := (kCe BK230.out 0).trans rfl; have hcz39_1 : w38.cell? ⟨gb230, 1, none⟩ = some (.string a1_1) := (kCe BK230.out 1).trans rfl; have hcz39_2 : w38.cell? ⟨gb230, 2, none⟩ = some (.string a1_2) := (kCe BK230.out 2).trans rfl; have hcz39_3 : w38.cell? ⟨gb230, 3, none⟩ = some (.int .i64 a1_3) := (kCe BK230.out 3).trans rfl; have hcz39_4 : w38.cell? ⟨gb230, 4, none⟩ = some (.int .i64 a1_4) := (kCe BK230.out 4).trans rfl) | (go_at_call 12; (with_reducible refine (check_In.calls k2 a1_0 a1_1 a1_2 a1_3 a1_4 x5_2 true _ A25.out).mono ?_); rintro e w40 ⟨rfl, hb⟩; have n0_ := aK (kBe (g := gb229) (o := .cells #[.int .i64 a0_0, .string a0_1, .string a0_2, .int .i64 a0_3, .int .i64 a0_4] 33 (0, 0)) (by (with_reducible repeat (first | refine kDN ?_ _ | refine kDr ?_ | refine kAl ?_ _)); exact BK229.out) hb); have n1_ := aK (kBe (g := gb230) (o := .cells #[.int .i64 a1_0, .string a1_1, .string a1_2, .int .i64 a1_3, .int .i64 a1_4] 33 (0, 0)) (by (with_reducible repeat (first | refine kDN ?_ _ | refine kDr ?_ | refine kAl ?_ _)); exact BK230.out) hb); have n2_ := aK (bSp (by repeat (first | (with_reducible first | exact HB.out | apply bAl | apply pbD | apply bD1 | refine bSt ?_ GE229.out | refine bSt ?_ GE230.out) | exact HB.out)) hb); clear BK229; clear BK230; clear HB; have BK229 := n0_; have BK230 := n1_; have HB := n2_; clear n0_ n1_ n2_; (try clear hb); (try clear hb2); (try clear hk); (try clear hi); have hcz41_0 : w40.cell? ⟨gb229, 0, none⟩ = some (.int .i64 a0_0) := (kCe BK229.out 0).trans rfl; have hcz41_1 : w40.cell? ⟨gb229, 1, none⟩ = some (.string a0_1) := (kCe BK229.out 1).trans rfl; have hcz41_2 : w40.cell? ⟨gb229, 2, none⟩ = some (.string a0_2) := (kCe BK229.out 2).trans rfl; have hcz41_3 : w40.cell? ⟨gb229, 3, none⟩ = some (.int .i64 a0_3) := (kCe BK229.out 3).trans rfl; have hcz41_4 : w40.cell? ⟨gb229, 4, none⟩ = some (.int .i64 a0_4) := (kCe BK229.out 4).trans rfl; have hcz42_0 : w40.cell? ⟨gb230, 0, none⟩ = some (.int .i64 a1_0) := (kCe BK230.out 0).trans rfl; have hcz42_1 : w40.cell? ⟨gb230, 1, none⟩ = some (.string a1_1) := (kCe BK230.out 1).trans rfl; have hcz42_2 : w40.cell? ⟨gb230, 2, none⟩ = some (.string a1_2) := (kCe BK230.out 2).trans rfl; have hcz42_3 : w40.cell? ⟨gb230, 3, none⟩ = some (.int .i64 a1_3) := (kCe BK230.out 3).trans rfl; have hcz42_4 : w40.cell? ⟨gb230, 4, none⟩ = some (.int .i64 a1_4) := (kCe BK230.out 4).trans rfl) | (go_at_call 64; (with_reducible refine (check_begins.calls a0_2 a1_2 false _ A27.out).mono ?_); rintro e w' ⟨rfl, ⟨nd, rfl⟩⟩))
       go_roundg k2
       case measure => have := HJ2.out; have := HK2.out; omega
       case rel => exact ⟨(wrap64 (x5_2 + 1)), (by first | rfl | (simp; done) | (simp [*]; done)), H', ⟨by have := HJ2.out; have := HK2.out; omega⟩, ⟨by (with_reducible repeat (first | refine kDN ?_ _ | refine kDr ?_ | refine kAl ?_ _)); exact BK229.out⟩, ⟨by (with_reducible repeat (first | refine kDN ?_ _ | refine kDr ?_ | refine kAl ?_ _)); exact BK230.out⟩, ⟨by repeat (first | (with_reducible first | exact HB.out | apply bAl | apply pbD | apply bD1 | refine bSt ?_ GE229.out | refine bSt ?_ GE230.out) | exact HB.out)⟩⟩
      subst c28
      have H1 : (some true) = some r := by rw [if_pos rfl] at H; exact H
      clear H
      have H := H1
      clear H1
      obtain rfl := oI H
      have hnb29 := NB229_230.out
      have hnc29 := NB230_229.out
      have hcz30_0 : wr.cell? ⟨gb229, 0, none⟩ = some (.int .i64 a0_0) := (kCe BK229.out 0).trans rfl
      have hcz30_1 : wr.cell? ⟨gb229, 1, none⟩ = some (.string a0_1) := (kCe BK229.out 1).trans rfl
      have hcz30_2 : wr.cell? ⟨gb229, 2, none⟩ = some (.string a0_2) := (kCe BK229.out 2).trans rfl
      have hcz30_3 : wr.cell? ⟨gb229, 3, none⟩ = some (.int .i64 a0_3) := (kCe BK229.out 3).trans rfl
      have hcz30_4 : wr.cell? ⟨gb229, 4, none⟩ = some (.int .i64 a0_4) := (kCe BK229.out 4).trans rfl
      go_wp2_with (first | ((with_reducible refine gate_callee (f := 12) rfl ?_); refine goesL_ (some 36) rfl rfl Try.func12 (by kernel_rfl) rfl #[.agg #[.int .i64 a0_0, .string a0_1, .string a0_2, .int .i64 a0_3, .int .i64 a0_4], .int .i64 x5_2] rfl (by (try simp only [qM0, qM1, qM2]); first | done | rfl | (simp only [qD0, qD1]; rfl)) ?_; (with_reducible refine (check_In.calls k2 a0_0 a0_1 a0_2 a0_3 a0_4 x5_2 true _ A23.out).mono ?_); rintro e w31 ⟨rfl, hb⟩; refine ⟨_, rfl, ?_⟩; have n0_ := aK (kBe (g := gb229) (o := .cells #[.int .i64 a0_0, .string a0_1, .string a0_2, .int .i64 a0_3, .int .i64 a0_4] 33 (0, 0)) (by (with_reducible repeat (first | refine kDN ?_ _ | refine kDr ?_ | refine kAl ?_ _)); exact BK229.out) hb); have n1_ := aK (kBe (g := gb230) (o := .cells #[.int .i64 a1_0, .string a1_1, .string a1_2, .int .i64 a1_3, .int .i64 a1_4] 33 (0, 0)) (by (with_reducible repeat (first | refine kDN ?_ _ | refine kDr ?_ | refine kAl ?_ _)); exact BK230.out) hb); have n2_ := aK (bSp (by repeat (first | (with_reducible first | exact HB.out | apply bAl | apply pbD | apply bD1 | refine bSt ?_ GE229.out | refine bSt ?_ GE230.out) | exact HB.out)) hb); clear BK229; clear BK230; clear HB; have BK229 := n0_; have BK230 := n1_; have HB := n2_; clear n0_ n1_ n2_; (try clear hb); (try clear hb2); (try clear hk); (try clear hi); have hcz32_0 : w31.cell? ⟨gb230, 0, none⟩ = some (.int .i64 a1_0) := (kCe BK230.out 0).trans rfl; have hcz32_1 : w31.cell? ⟨gb230, 1, none⟩ = some (.string a1_1) := (kCe BK230.out 1).trans rfl; have hcz32_2 : w31.cell? ⟨gb230, 2, none⟩ = some (.string a1_2) := (kCe BK230.out 2).trans rfl; have hcz32_3 : w31.cell? ⟨gb230, 3, none⟩ = some (.int .i64 a1_3) := (kCe BK230.out 3).trans rfl; have hcz32_4 : w31.cell? ⟨gb230, 4, none⟩ = some (.int .i64 a1_4) := (kCe BK230.out 4).trans rfl) | (go_at_call 12; (with_reducible refine (check_In.calls k2 a1_0 a1_1 a1_2 a1_3 a1_4 x5_2 true _ A25.out).mono ?_); rintro e w33 ⟨rfl, hb⟩; have n0_ := aK (kBe (g := gb229) (o := .cells #[.int .i64 a0_0, .string a0_1, .string a0_2, .int .i64 a0_3, .int .i64 a0_4] 33 (0, 0)) (by (with_reducible repeat (first | refine kDN ?_ _ | refine kDr ?_ | refine kAl ?_ _)); exact BK229.out) hb); have n1_ := aK (kBe (g := gb230) (o := .cells #[.int .i64 a1_0, .string a1_1, .string a1_2, .int .i64 a1_3, .int .i64 a1_4] 33 (0, 0)) (by (with_reducible repeat (first | refine kDN ?_ _ | refine kDr ?_ | refine kAl ?_ _)); exact BK230.out) hb); have n2_ := aK (bSp (by repeat (first | (with_reducible first | exact HB.out | apply bAl | apply pbD | apply bD1 | refine bSt ?_ GE229.out | refine bSt ?_ GE230.out) | exact HB.out)) hb); clear BK229; clear BK230; clear HB; have BK229 := n0_; have BK230 := n1_; have HB := n2_; clear n0_ n1_ n2_; (try clear hb); (try clear hb2); (try clear hk); (try clear hi); have hcz34_0 : w33.cell? ⟨gb229, 0, none⟩ = some (.int .i64 a0_0) := (kCe BK229.out 0).trans rfl; have hcz34_1 : w33.cell? ⟨gb229, 1, none⟩ = some (.string a0_1) := (kCe BK229.out 1).trans rfl; have hcz34_2 : w33.cell? ⟨gb229, 2, none⟩ = some (.string a0_2) := (kCe BK229.out 2).trans rfl; have hcz34_3 : w33.cell? ⟨gb229, 3, none⟩ = some (.int .i64 a0_3) := (kCe BK229.out 3).trans rfl; have hcz34_4 : w33.cell? ⟨gb229, 4, none⟩ = some (.int .i64 a0_4) := (kCe BK229.out 4).trans rfl; have hcz35_0 : w33.cell? ⟨gb230, 0, none⟩ = some (.int .i64 a1_0) := (kCe BK230.out 0).trans rfl; have hcz35_1 : w33.cell? ⟨gb230, 1, none⟩ = some (.string a1_1) := (kCe BK230.out 1).trans rfl; have hcz35_2 : w33.cell? ⟨gb230, 2, none⟩ = some (.string a1_2) := (kCe BK230.out 2).trans rfl; have hcz35_3 : w33.cell? ⟨gb230, 3, none⟩ = some (.int .i64 a1_3) := (kCe BK230.out 3).trans rfl; have hcz35_4 : w33.cell? ⟨gb230, 4, none⟩ = some (.int .i64 a1_4) := (kCe BK230.out 4).trans rfl) | (go_at_call 64; (with_reducible refine (check_begins.calls a0_2 a1_2 true _ A27.out).mono ?_); rintro e w' ⟨rfl, ⟨nd, rfl⟩⟩))
      go_ret
      exact ⟨by first | rfl | (simp [eWn, eWs] <;> rfl) | (simp [*, eWn, eWs] <;> rfl), by repeat (first | (with_reducible first | exact HB.out | apply bAl | apply pbD | apply bD1 | refine bSt ?_ GE229.out | refine bSt ?_ GE230.out) | exact HB.out)⟩
   subst c21
   have H1 : (some true) = some r := by rw [if_pos rfl] at H; exact H
   clear H
   have H := H1
   clear H1
   obtain rfl := oI H
   go_wp2
   go_ret
   exact ⟨by first | rfl | (simp [eWn, eWs] <;> rfl) | (simp [*, eWn, eWs] <;> rfl), by repeat (first | (with_reducible first | exact HB.out | apply bAl | apply pbD | apply bD1 | refine bSt ?_ GE229.out | refine bSt ?_ GE230.out) | exact HB.out)⟩
def r9_Kept.f (a0_0 : Int) (a0_1 : ByteArray) (a0_2 : ByteArray) (a0_3 : Int) (a0_4 : Int) : Option (Bool) := if a0_0 = 8 then (if a0_1.toList = ([98, 108, 107] : List UInt8) then (some true) else (if a0_1.toList = ([99, 111, 110, 116] : List UInt8) then (some true) else (some (a0_1.toList == ([105, 110, 100] : List UInt8))))) else (some false)
def r2_Dots.l0 : Nat → Int → ByteArray → Int → Option (ByteArray)
 | 0, _, _, _ => none
 | k + 1, x0, x3, x4 => if x4 ≤ 6 then ((r2_weight.f k x4).bind fun t237 => (if t237 = 0 then (none) else (if (Int.tmod (wrap64 (Int.tdiv (wrap64 (x0)) t237)) 2) = 1 then ((some (([(wrap64 (48 + x4)) % 256] : List Int) : List Int)).bind fun y238 => (if x3.size + (strOfNums y238).size ≤ 9223372036854775807 then (r2_Dots.l0 k x0 (x3 ++ (strOfNums y238)) (wrap64 (x4 + 1))) else (none))) else (r2_Dots.l0 k x0 x3 (wrap64 (x4 + 1)))))) else (some x3)
def r2_Dots.f (k : Nat) (a0 : Int) : Option (ByteArray) := r2_Dots.l0 k a0 (⟨#[]⟩ : ByteArray) 1
end Go.Proofs.Ytbpbniemjjhecaa.PChk
