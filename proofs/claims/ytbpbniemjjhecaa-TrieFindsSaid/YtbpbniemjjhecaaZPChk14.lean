import Derived.Test.YtbpbniemjjhecaaZPChk0
import Derived.Test.YtbpbniemjjhecaaZPChk10
import Derived.Test.YtbpbniemjjhecaaZPChk12
import Derived.Test.YtbpbniemjjhecaaZPChk13
namespace Go.Proofs.Ytbpbniemjjhecaa.PChk
open Go.RowKit Go.Proofs.Ytbpbniemjjhecaa.G Go.Proofs.YtbpbniemjjhecaaW.PrintWords Go.Proofs.YtbpbniemjjhecaaW.PrintLast Go.Proofs.YtbpbniemjjhecaaW.PrintMore
attribute [local go_sem] max2_int min2_int max_two min_two max_three min_three max_four min_four
set_option linter.unusedVariables false
set_option linter.unusedSimpArgs false
set_option maxHeartbeats 8000000
set_option maxRecDepth 100000
mutual
def r9_Clash.j0 : Nat → Bool → Int → ByteArray → ByteArray → Int → Int → Int → ByteArray → ByteArray → Int → Int → Option (Bool)
 | 0, _, _, _, _, _, _, _, _, _, _, _ => none
 | k + 1, x17, x256000, x256001, x256002, x256003, x256004, x257000, x257001, x257002, x257003, x257004 => if x17 = true then (some true) else (if x256000 = 5 then (if x257000 = 5 then (r9_Clash.j1 k (x256002.toList == x257002.toList) x256000 x256001 x256002 x256003 x256004 x257000 x257001 x257002 x257003 x257004) else (r9_Clash.j1 k false x256000 x256001 x256002 x256003 x256004 x257000 x257001 x257002 x257003 x257004)) else (r9_Clash.j1 k false x256000 x256001 x256002 x256003 x256004 x257000 x257001 x257002 x257003 x257004))
def r9_Clash.j1 : Nat → Bool → Int → ByteArray → ByteArray → Int → Int → Int → ByteArray → ByteArray → Int → Int → Option (Bool)
 | 0, _, _, _, _, _, _, _, _, _, _, _ => none
 | k + 1, x32, x256000, x256001, x256002, x256003, x256004, x257000, x257001, x257002, x257003, x257004 => if x32 = true then (some true) else (r9_Clash.l0 k 1 x256000 x256001 x256002 x256003 x256004 x257000 x257001 x257002 x257003 x257004)
def r9_Clash.l0 : Nat → Int → Int → ByteArray → ByteArray → Int → Int → Int → ByteArray → ByteArray → Int → Int → Option (Bool)
 | 0, _, _, _, _, _, _, _, _, _, _, _ => none
 | k + 1, x5, x256000, x256001, x256002, x256003, x256004, x257000, x257001, x257002, x257003, x257004 => if x5 ≤ 3 then ((r9_In.f k x256000 x256001 x256002 x256003 x256004 x5).bind fun t257 => (if t257 = true then ((r9_In.f k x257000 x257001 x257002 x257003 x257004 x5).bind fun t258 => (if t258 = true then ((r9_Begins.f x256002 x257002).bind fun t259 => (if t259 = true then (some true) else ((r9_Begins.f x257002 x256002).bind fun t260 => (if t260 = true then (some true) else (r9_Clash.l0 k (wrap64 (x5 + 1)) x256000 x256001 x256002 x256003 x256004 x257000 x257001 x257002 x257003 x257004))))) else (r9_Clash.l0 k (wrap64 (x5 + 1)) x256000 x256001 x256002 x256003 x256004 x257000 x257001 x257002 x257003 x257004))) else (r9_Clash.l0 k (wrap64 (x5 + 1)) x256000 x256001 x256002 x256003 x256004 x257000 x257001 x257002 x257003 x257004))) else ((r9_Kept.f x256000 x256001 x256002 x256003 x256004).bind fun t261 => (if t261 = true then ((r9_within.f k x256002 x257002).bind fun t262 => (if t262 = true then (r9_Clash.j3 k true x256000 x256001 x256002 x256003 x256004 x257000 x257001 x257002 x257003 x257004) else ((r9_Kept.f x257000 x257001 x257002 x257003 x257004).bind fun t263 => (if t263 = true then ((r9_within.f k x257002 x256002).bind fun t264 => (r9_Clash.j3 k t264 x256000 x256001 x256002 x256003 x256004 x257000 x257001 x257002 x257003 x257004)) else (r9_Clash.j3 k false x256000 x256001 x256002 x256003 x256004 x257000 x257001 x257002 x257003 x257004))))) else ((r9_Kept.f x257000 x257001 x257002 x257003 x257004).bind fun t265 => (if t265 = true then ((r9_within.f k x257002 x256002).bind fun t266 => (r9_Clash.j3 k t266 x256000 x256001 x256002 x256003 x256004 x257000 x257001 x257002 x257003 x257004)) else (r9_Clash.j3 k false x256000 x256001 x256002 x256003 x256004 x257000 x257001 x257002 x257003 x257004)))))
def r9_Clash.j3 : Nat → Bool → Int → ByteArray → ByteArray → Int → Int → Int → ByteArray → ByteArray → Int → Int → Option (Bool)
 | 0, _, _, _, _, _, _, _, _, _, _, _ => none
 | k + 1, x78, x256000, x256001, x256002, x256003, x256004, x257000, x257001, x257002, x257003, x257004 => if x78 = true then (some true) else (if x256000 = 8 then (if x257000 = 5 then ((r9_Begins.f x256002 x257002).bind fun t267 => (if t267 = true then (some true) else (if x257000 = 8 then (if x256000 = 5 then ((r9_Begins.f x257002 x256002).bind fun t268 => (some t268)) else (some false)) else (some false)))) else (if x257000 = 8 then (if x256000 = 5 then ((r9_Begins.f x257002 x256002).bind fun t269 => (some t269)) else (some false)) else (some false))) else (if x257000 = 8 then (if x256000 = 5 then ((r9_Begins.f x257002 x256002).bind fun t270 => (some t270)) else (some false)) else (some false)))
end
def r9_Clash.f (k : Nat) (a0_0 : Int) (a0_1 : ByteArray) (a0_2 : ByteArray) (a0_3 : Int) (a0_4 : Int) (a1_0 : Int) (a1_1 : ByteArray) (a1_2 : ByteArray) (a1_3 : Int) (a1_4 : Int) : Option (Bool) := if a0_0 = a1_0 then (r9_Clash.j0 k (a0_1.toList == a1_1.toList) a0_0 a0_1 a0_2 a0_3 a0_4 a1_0 a1_1 a1_2 a1_3 a1_4) else (r9_Clash.j0 k false a0_0 a0_1 a0_2 a0_3 a0_4 a1_0 a1_1 a1_2 a1_3 a1_4)
theorem r9_Clash.calls (k : Nat) (a0_0 : Int) (a0_1 : ByteArray) (a0_2 : ByteArray) (a0_3 : Int) (a0_4 : Int) (a1_0 : Int) (a1_1 : ByteArray) (a1_2 : ByteArray) (a1_3 : Int) (a1_4 : Int) (r : Bool) (w : World) (h : r9_Clash.f k a0_0 a0_1 a0_2 a0_3 a0_4 a1_0 a1_1 a1_2 a1_3 a1_4 = some r) :
  Calls Try.prog 47 #[.agg #[.int .i64 a0_0, .string a0_1, .string a0_2, .int .i64 a0_3, .int .i64 a0_4], .agg #[.int .i64 a1_0, .string a1_1, .string a1_2, .int .i64 a1_3, .int .i64 a1_4]] w fun e w' => e = .returned (.bool r) ∧ Below w.heap.size w w' := by
 have hu33 := Try.underlying33
 have HB := aK (Below.refl w.heap.size w)
 have H : (if a0_0 = a1_0 then (r9_Clash.j0 k (a0_1.toList == a1_1.toList) a0_0 a0_1 a0_2 a0_3 a0_4 a1_0 a1_1 a1_2 a1_3 a1_4) else (r9_Clash.j0 k false a0_0 a0_1 a0_2 a0_3 a0_4 a1_0 a1_1 a1_2 a1_3 a1_4)) = some r := h
 clear h
 have HC3 := aK H
 clear H
 go_enter Try.func47, Try.ntmps47
 go_upto_region 1 with (first | ((with_reducible refine gate_dst (N := 2) rfl ?_); refine box_event ?hg (N := 2) ?hd (cs := #[.int .i64 a0_0, .string a0_1, .string a0_2, .int .i64 a0_3, .int .i64 a0_4]) (t := 33) ?hr ?_; (case hd => rfl); (case hg => rfl); (case hr => first | (go_simp; done) | (go_simp; rfl)); intro gb255 hg w4 hbox hb; have n0_ := aK (bSp (by repeat (first | (with_reducible first | exact HB.out | apply bAl | apply pbD | apply bD1) | exact HB.out)) hb); have n1_ := aK (hbox); have n2_ := aK ((by rw [hg]; exact (bSz (by repeat (first | (with_reducible first | exact HB.out | apply bAl | apply pbD | apply bD1) | exact HB.out))) : w.heap.size ≤ gb255)); have n3_ := aK ((by rw [hg]; exact (bSz (by repeat (first | (with_reducible first | exact HB.out | apply bAl | apply pbD | apply bD1) | exact HB.out))) : w.heap.size ≤ gb255)); clear HB; have HB := n0_; have BK255 := n1_; have GW255 := n2_; have GE255 := n3_; clear n0_ n1_ n2_ n3_; clear hb hbox hg) | ((with_reducible refine gate_dst (N := 3) rfl ?_); refine box_event ?hg (N := 3) ?hd (cs := #[.int .i64 a1_0, .string a1_1, .string a1_2, .int .i64 a1_3, .int .i64 a1_4]) (t := 33) ?hr ?_; (case hd => rfl); (case hg => rfl); (case hr => first | (go_simp; done) | (go_simp; rfl)); intro gb256 hg w5 hbox hb; have n0_ := aK (kBe (g := gb255) (o := .cells #[.int .i64 a0_0, .string a0_1, .string a0_2, .int .i64 a0_3, .int .i64 a0_4] 33 (0, 0)) (by (with_reducible repeat (first | refine kDN ?_ _ | refine kDr ?_ | refine kAl ?_ _)); exact BK255.out) hb); have n1_ := aK (bSp (by repeat (first | (with_reducible first | exact HB.out | apply bAl | apply pbD | apply bD1 | refine bSt ?_ GE255.out) | exact HB.out)) hb); have n2_ := aK (hbox); have n3_ := aK ((by rw [hg]; exact (bSz (by repeat (first | (with_reducible first | exact HB.out | apply bAl | apply pbD | apply bD1 | refine bSt ?_ GE255.out) | exact HB.out))) : w.heap.size ≤ gb256)); have n4_ := aK ((by rw [hg]; exact (bSz (by repeat (first | (with_reducible first | exact HB.out | apply bAl | apply pbD | apply bD1 | refine bSt ?_ GE255.out) | exact HB.out))) : w.heap.size ≤ gb256)); have n5_ := aK ((by rw [hg]; exact Nat.ne_of_lt (blk_lt (g := gb255) (o := .cells #[.int .i64 a0_0, .string a0_1, .string a0_2, .int .i64 a0_3, .int .i64 a0_4] 33 (0, 0)) (by (with_reducible repeat (first | refine kDN ?_ _ | refine kDr ?_ | refine kAl ?_ _)); exact BK255.out)) : gb255 ≠ gb256)); have n6_ := aK ((by rw [hg]; exact Nat.ne_of_gt (blk_lt (g := gb255) (o := .cells #[.int .i64 a0_0, .string a0_1, .string a0_2, .int .i64 a0_3, .int .i64 a0_4] 33 (0, 0)) (by (with_reducible repeat (first | refine kDN ?_ _ | refine kDr ?_ | refine kAl ?_ _)); exact BK255.out)) : gb256 ≠ gb255)); clear BK255; clear HB; have BK255 := n0_; have HB := n1_; have BK256 := n2_; have GW256 := n3_; have GE256 := n4_; have NB255_256 := n5_; have NB256_255 := n6_; clear n0_ n1_ n2_ n3_ n4_ n5_ n6_; clear hb hbox hg))
 (try simp only [Act.put, qSa, qS0, qS1])
 go_cut [17] (fun v17 wc => ∃ (kq : Nat) (x17_2 : Bool), v17 = .bool x17_2 ∧ Aside0 (r9_Clash.j0 kq x17_2 a0_0 a0_1 a0_2 a0_3 a0_4 a1_0 a1_1 a1_2 a1_3 a1_4 = some r) ∧ Aside0 (kq ≤ k) ∧ Aside0 (wc.heap[gb255]? = some (.cells #[.int .i64 a0_0, .string a0_1, .string a0_2, .int .i64 a0_3, .int .i64 a0_4] 33 (0, 0))) ∧ Aside0 (wc.heap[gb256]? = some (.cells #[.int .i64 a1_0, .string a1_1, .string a1_2, .int .i64 a1_3, .int .i64 a1_4] 33 (0, 0))) ∧ Aside0 (Below w.heap.size w wc))
 case first =>
  have H := HC3.out
  clear HC3
  by_cases c6 : a0_0 = a1_0
  rotate_left
  ·
   rw [if_neg c6] at H
   have c6b0 : (a0_0 == a1_0) = false := beq_eq_false_iff_ne.mpr c6
   have c6b1 : (a0_0 != a1_0) = true := bne_iff_ne.mpr c6
   (first | rw [c6b0] | (simp only [i64_w, i32_w]; rw [c6b0]) | skip)
   have H' := aK H
   clear H
   have hnb10 := NB255_256.out
   have hnc10 := NB256_255.out
   have hcz11_0 : w5.cell? ⟨gb255, 0, none⟩ = some (.int .i64 a0_0) := (kCe BK255.out 0).trans rfl
   have hcz11_1 : w5.cell? ⟨gb255, 1, none⟩ = some (.string a0_1) := (kCe BK255.out 1).trans rfl
   have hcz11_2 : w5.cell? ⟨gb255, 2, none⟩ = some (.string a0_2) := (kCe BK255.out 2).trans rfl
   have hcz11_3 : w5.cell? ⟨gb255, 3, none⟩ = some (.int .i64 a0_3) := (kCe BK255.out 3).trans rfl
   have hcz11_4 : w5.cell? ⟨gb255, 4, none⟩ = some (.int .i64 a0_4) := (kCe BK255.out 4).trans rfl
   have hcz12_0 : w5.cell? ⟨gb256, 0, none⟩ = some (.int .i64 a1_0) := (kCe BK256.out 0).trans rfl
   have hcz12_1 : w5.cell? ⟨gb256, 1, none⟩ = some (.string a1_1) := (kCe BK256.out 1).trans rfl
   have hcz12_2 : w5.cell? ⟨gb256, 2, none⟩ = some (.string a1_2) := (kCe BK256.out 2).trans rfl
   have hcz12_3 : w5.cell? ⟨gb256, 3, none⟩ = some (.int .i64 a1_3) := (kCe BK256.out 3).trans rfl
   have hcz12_4 : w5.cell? ⟨gb256, 4, none⟩ = some (.int .i64 a1_4) := (kCe BK256.out 4).trans rfl
   go_wp2
   go_meet
   case rel => exact ⟨_, (false), (by first | rfl | (simp; done) | (simp [*]; done)), H', ⟨by first | omega | exact Nat.le_refl _⟩, ⟨by (with_reducible repeat (first | refine kDN ?_ _ | refine kDr ?_ | refine kAl ?_ _)); exact BK255.out⟩, ⟨by (with_reducible repeat (first | refine kDN ?_ _ | refine kDr ?_ | refine kAl ?_ _)); exact BK256.out⟩, ⟨by repeat (first | (with_reducible first | exact HB.out | apply bAl | apply pbD | apply bD1 | refine bSt ?_ GE255.out | refine bSt ?_ GE256.out) | exact HB.out)⟩⟩
  rw [if_pos c6] at H
  have c6b0 : (a0_0 == a1_0) = true := beq_iff_eq.mpr c6
  have c6b1 : (a0_0 != a1_0) = false := bne_eq_false_iff_eq.mpr c6
  clear c6
  (first | rw [c6b0] | (simp only [i64_w, i32_w]; rw [c6b0]) | skip)
  have H' := aK H
  clear H
  have hnb7 := NB255_256.out
  have hnc7 := NB256_255.out
  have hcz8_0 : w5.cell? ⟨gb255, 0, none⟩ = some (.int .i64 a0_0) := (kCe BK255.out 0).trans rfl
  have hcz8_1 : w5.cell? ⟨gb255, 1, none⟩ = some (.string a0_1) := (kCe BK255.out 1).trans rfl
  have hcz8_2 : w5.cell? ⟨gb255, 2, none⟩ = some (.string a0_2) := (kCe BK255.out 2).trans rfl
  have hcz8_3 : w5.cell? ⟨gb255, 3, none⟩ = some (.int .i64 a0_3) := (kCe BK255.out 3).trans rfl
  have hcz8_4 : w5.cell? ⟨gb255, 4, none⟩ = some (.int .i64 a0_4) := (kCe BK255.out 4).trans rfl
  have hcz9_0 : w5.cell? ⟨gb256, 0, none⟩ = some (.int .i64 a1_0) := (kCe BK256.out 0).trans rfl
  have hcz9_1 : w5.cell? ⟨gb256, 1, none⟩ = some (.string a1_1) := (kCe BK256.out 1).trans rfl
  have hcz9_2 : w5.cell? ⟨gb256, 2, none⟩ = some (.string a1_2) := (kCe BK256.out 2).trans rfl
  have hcz9_3 : w5.cell? ⟨gb256, 3, none⟩ = some (.int .i64 a1_3) := (kCe BK256.out 3).trans rfl
  have hcz9_4 : w5.cell? ⟨gb256, 4, none⟩ = some (.int .i64 a1_4) := (kCe BK256.out 4).trans rfl
  go_wp2
  go_meet
  case rel => exact ⟨_, ((a0_1.toList == a1_1.toList)), (by first | rfl | (simp; done) | (simp [*]; done)), H', ⟨by first | omega | exact Nat.le_refl _⟩, ⟨by (with_reducible repeat (first | refine kDN ?_ _ | refine kDr ?_ | refine kAl ?_ _)); exact BK255.out⟩, ⟨by (with_reducible repeat (first | refine kDN ?_ _ | refine kDr ?_ | refine kAl ?_ _)); exact BK256.out⟩, ⟨by repeat (first | (with_reducible first | exact HB.out | apply bAl | apply pbD | apply bD1 | refine bSt ?_ GE255.out | refine bSt ?_ GE256.out) | exact HB.out)⟩⟩
 case rest =>
  clear HC3
  try clear c1
  try clear p2
  try clear c4
  try clear c6
  try clear c6b0
  try clear c6b1
  try clear c7
  try clear c10
  try clear hcz11_0
  try clear hcz11_1
  try clear hcz11_2
  try clear hcz11_3
  try clear hcz11_4
  try clear hcz12_0
  try clear hcz12_1
  try clear hcz12_2
  try clear hcz12_3
  try clear hcz12_4
  try clear hcz8_0
  try clear hcz8_1
  try clear hcz8_2
  try clear hcz8_3
  try clear hcz8_4
  try clear hcz9_0
  try clear hcz9_1
  try clear hcz9_2
  try clear hcz9_3
  try clear hcz9_4
  obtain ⟨kq, x17_2, rfl, HA, HJ2, BK255, BK256, HB⟩ := hcut
  cases kq with
  | zero => exact absurd HA.out (by simp [r9_Clash.j0])
  | succ kj2 =>
   have H := HA.out
   clear HA
   simp only [r9_Clash.j0] at H
   by_cases c13 : x17_2 = true
   rotate_left
   ·
    replace c13 := Bool.eq_false_iff.mpr c13
    subst c13
    have H1 : (if a0_0 = 5 then (if a1_0 = 5 then (r9_Clash.j1 kj2 (a0_2.toList == a1_2.toList) a0_0 a0_1 a0_2 a0_3 a0_4 a1_0 a1_1 a1_2 a1_3 a1_4) else (r9_Clash.j1 kj2 false a0_0 a0_1 a0_2 a0_3 a0_4 a1_0 a1_1 a1_2 a1_3 a1_4)) else (r9_Clash.j1 kj2 false a0_0 a0_1 a0_2 a0_3 a0_4 a1_0 a1_1 a1_2 a1_3 a1_4)) = some r := by rw [if_neg (show ¬ (false = true) by decide)] at H; exact H
    clear H
    have H := H1
    clear H1
    have HC14 := aK H
    clear H
    go_upto_region 3 with (fail)
    go_cut [32] (fun v32 wc => ∃ (kq : Nat) (x32_13 : Bool), v32 = .bool x32_13 ∧ Aside0 (r9_Clash.j1 kq x32_13 a0_0 a0_1 a0_2 a0_3 a0_4 a1_0 a1_1 a1_2 a1_3 a1_4 = some r) ∧ Aside0 (kq ≤ kj2) ∧ Aside0 (wc.heap[gb255]? = some (.cells #[.int .i64 a0_0, .string a0_1, .string a0_2, .int .i64 a0_3, .int .i64 a0_4] 33 (0, 0))) ∧ Aside0 (wc.heap[gb256]? = some (.cells #[.int .i64 a1_0, .string a1_1, .string a1_2, .int .i64 a1_3, .int .i64 a1_4] 33 (0, 0))) ∧ Aside0 (Below w.heap.size w wc))
    case first =>
     have H := HC14.out
     clear HC14
     by_cases c15 : a0_0 = 5
     rotate_left
     ·
      rw [if_neg c15] at H
      have c15b0 : (a0_0 == 5) = false := beq_eq_false_iff_ne.mpr c15
      have c15b1 : (a0_0 != 5) = true := bne_iff_ne.mpr c15
      (first | rw [c15b0] | (simp only [i64_w, i32_w]; rw [c15b0]) | skip)
      have H' := aK H
      clear H
      have hnb23 := NB255_256.out
      have hnc23 := NB256_255.out
      have hcz24_0 : wc.cell? ⟨gb255, 0, none⟩ = some (.int .i64 a0_0) := (kCe BK255.out 0).trans rfl
      have hcz24_1 : wc.cell? ⟨gb255, 1, none⟩ = some (.string a0_1) := (kCe BK255.out 1).trans rfl
      have hcz24_2 : wc.cell? ⟨gb255, 2, none⟩ = some (.string a0_2) := (kCe BK255.out 2).trans rfl
      have hcz24_3 : wc.cell? ⟨gb255, 3, none⟩ = some (.int .i64 a0_3) := (kCe BK255.out 3).trans rfl
      have hcz24_4 : wc.cell? ⟨gb255, 4, none⟩ = some (.int .i64 a0_4) := (kCe BK255.out 4).trans rfl
      go_wp2
      go_meet
      case rel => exact ⟨_, (false), (by first | rfl | (simp; done) | (simp [*]; done)), H', ⟨by have := HJ2.out; first | omega | exact Nat.le_refl _⟩, ⟨by (with_reducible repeat (first | refine kDN ?_ _ | refine kDr ?_ | refine kAl ?_ _)); exact BK255.out⟩, ⟨by (with_reducible repeat (first | refine kDN ?_ _ | refine kDr ?_ | refine kAl ?_ _)); exact BK256.out⟩, ⟨by repeat (first | (with_reducible first | exact HB.out | apply bAl | apply pbD | apply bD1 | refine bSt ?_ GE255.out | refine bSt ?_ GE256.out) | exact HB.out)⟩⟩
     rw [if_pos c15] at H
     have c15b0 : (a0_0 == 5) = true := beq_iff_eq.mpr c15
     have c15b1 : (a0_0 != 5) = false := bne_eq_false_iff_eq.mpr c15
     clear c15
     (first | rw [c15b0] | (simp only [i64_w, i32_w]; rw [c15b0]) | skip)
     by_cases c16 : a1_0 = 5
     rotate_left
     ·
      rw [if_neg c16] at H
      have c16b0 : (a1_0 == 5) = false := beq_eq_false_iff_ne.mpr c16
      have c16b1 : (a1_0 != 5) = true := bne_iff_ne.mpr c16
      have H' := aK H
      clear H
      have hnb20 := NB255_256.out
      have hnc20 := NB256_255.out
      have hcz21_0 : wc.cell? ⟨gb255, 0, none⟩ = some (.int .i64 a0_0) := (kCe BK255.out 0).trans rfl
      have hcz21_1 : wc.cell? ⟨gb255, 1, none⟩ = some (.string a0_1) := (kCe BK255.out 1).trans rfl
      have hcz21_2 : wc.cell? ⟨gb255, 2, none⟩ = some (.string a0_2) := (kCe BK255.out 2).trans rfl
      have hcz21_3 : wc.cell? ⟨gb255, 3, none⟩ = some (.int .i64 a0_3) := (kCe BK255.out 3).trans rfl
      have hcz21_4 : wc.cell? ⟨gb255, 4, none⟩ = some (.int .i64 a0_4) := (kCe BK255.out 4).trans rfl
      have hcz22_0 : wc.cell? ⟨gb256, 0, none⟩ = some (.int .i64 a1_0) := (kCe BK256.out 0).trans rfl
      have hcz22_1 : wc.cell? ⟨gb256, 1, none⟩ = some (.string a1_1) := (kCe BK256.out 1).trans rfl
      have hcz22_2 : wc.cell? ⟨gb256, 2, none⟩ = some (.string a1_2) := (kCe BK256.out 2).trans rfl
      have hcz22_3 : wc.cell? ⟨gb256, 3, none⟩ = some (.int .i64 a1_3) := (kCe BK256.out 3).trans rfl
      have hcz22_4 : wc.cell? ⟨gb256, 4, none⟩ = some (.int .i64 a1_4) := (kCe BK256.out 4).trans rfl
      go_wp2
      go_meet
      case rel => exact ⟨_, (false), (by first | rfl | (simp; done) | (simp [*]; done)), H', ⟨by have := HJ2.out; first | omega | exact Nat.le_refl _⟩, ⟨by (with_reducible repeat (first | refine kDN ?_ _ | refine kDr ?_ | refine kAl ?_ _)); exact BK255.out⟩, ⟨by (with_reducible repeat (first | refine kDN ?_ _ | refine kDr ?_ | refine kAl ?_ _)); exact BK256.out⟩, ⟨by repeat (first | (with_reducible first | exact HB.out | apply bAl | apply pbD | apply bD1 | refine bSt ?_ GE255.out | refine bSt ?_ GE256.out) | exact HB.out)⟩⟩
     rw [if_pos c16] at H
     have c16b0 : (a1_0 == 5) = true := beq_iff_eq.mpr c16
     have c16b1 : (a1_0 != 5) = false := bne_eq_false_iff_eq.mpr c16
     clear c16
     have H' := aK H
     clear H
     have hnb17 := NB255_256.out
     have hnc17 := NB256_255.out
     have hcz18_0 : wc.cell? ⟨gb255, 0, none⟩ = some (.int .i64 a0_0) := (kCe BK255.out 0).trans rfl
     have hcz18_1 : wc.cell? ⟨gb255, 1, none⟩ = some (.string a0_1) := (kCe BK255.out 1).trans rfl
     have hcz18_2 : wc.cell? ⟨gb255, 2, none⟩ = some (.string a0_2) := (kCe BK255.out 2).trans rfl
     have hcz18_3 : wc.cell? ⟨gb255, 3, none⟩ = some (.int .i64 a0_3) := (kCe BK255.out 3).trans rfl
     have hcz18_4 : wc.cell? ⟨gb255, 4, none⟩ = some (.int .i64 a0_4) := (kCe BK255.out 4).trans rfl
     have hcz19_0 : wc.cell? ⟨gb256, 0, none⟩ = some (.int .i64 a1_0) := (kCe BK256.out 0).trans rfl
     have hcz19_1 : wc.cell? ⟨gb256, 1, none⟩ = some (.string a1_1) := (kCe BK256.out 1).trans rfl
     have hcz19_2 : wc.cell? ⟨gb256, 2, none⟩ = some (.string a1_2) := (kCe BK256.out 2).trans rfl
     have hcz19_3 : wc.cell? ⟨gb256, 3, none⟩ = some (.int .i64 a1_3) := (kCe BK256.out 3).trans rfl
     have hcz19_4 : wc.cell? ⟨gb256, 4, none⟩ = some (.int .i64 a1_4) := (kCe BK256.out 4).trans rfl
     go_wp2
     go_meet
     case rel => exact ⟨_, ((a0_2.toList == a1_2.toList)), (by first | rfl | (simp; done) | (simp [*]; done)), H', ⟨by have := HJ2.out; first | omega | exact Nat.le_refl _⟩, ⟨by (with_reducible repeat (first | refine kDN ?_ _ | refine kDr ?_ | refine kAl ?_ _)); exact BK255.out⟩, ⟨by (with_reducible repeat (first | refine kDN ?_ _ | refine kDr ?_ | refine kAl ?_ _)); exact BK256.out⟩, ⟨by repeat (first | (with_reducible first | exact HB.out | apply bAl | apply pbD | apply bD1 | refine bSt ?_ GE255.out | refine bSt ?_ GE256.out) | exact HB.out)⟩⟩
    case rest =>
     clear HC14
     try clear c1
     try clear c2
     try clear p2
     try clear c4
     try clear c6
     try clear c6b0
     try clear c6b1
     try clear c7
     try clear c10
     try clear c13
     try clear c15
     try clear c15b0
     try clear c15b1
     try clear c16
     try clear c16b0
     try clear c16b1
     try clear c17
     try clear c20
     try clear c23
     try clear hcz11_0
     try clear hcz11_1
     try clear hcz11_2
     try clear hcz11_3
     try clear hcz11_4
     try clear hcz12_0
     try clear hcz12_1
     try clear hcz12_2
     try clear hcz12_3
     try clear hcz12_4
     try clear hcz18_0
     try clear hcz18_1
     try clear hcz18_2
     try clear hcz18_3
     try clear hcz18_4
     try clear hcz19_0
     try clear hcz19_1
     try clear hcz19_2
     try clear hcz19_3
     try clear hcz19_4
     try clear hcz21_0
     try clear hcz21_1
     try clear hcz21_2
     try clear hcz21_3
     try clear hcz21_4
     try clear hcz22_0
     try clear hcz22_1
     try clear hcz22_2
     try clear hcz22_3
     try clear hcz22_4
     try clear hcz24_0
     try clear hcz24_1
     try clear hcz24_2
     try clear hcz24_3
     try clear hcz24_4
     try clear hcz8_0
     try clear hcz8_1
     try clear hcz8_2
     try clear hcz8_3
     try clear hcz8_4
     try clear hcz9_0
     try clear hcz9_1
     try clear hcz9_2
     try clear hcz9_3
     try clear hcz9_4
     try clear p2
     obtain ⟨kq, x32_13, rfl, HA, HJ13, BK255, BK256, HB⟩ := hcut
     cases kq with
     | zero => exact absurd HA.out (by simp [r9_Clash.j1])
     | succ kj13 =>
      have H := HA.out
      clear HA
      simp only [r9_Clash.j1] at H
      by_cases c25 : x32_13 = true
      rotate_left
      ·
       replace c25 := Bool.eq_false_iff.mpr c25
       subst c25
       have H1 : (r9_Clash.l0 kj13 1 a0_0 a0_1 a0_2 a0_3 a0_4 a1_0 a1_1 a1_2 a1_3 a1_4) = some r := by rw [if_neg (show ¬ (false = true) by decide)] at H; exact H
       clear H
       have H := H1
       clear H1
       have H' := aK H
       clear H
       go_wp2
       go_loopg [5] kj13 (fun kq v5 w' => ∃ (x5_3 : Int), v5 = .int .i64 x5_3 ∧ Aside0 (r9_Clash.l0 kq x5_3 a0_0 a0_1 a0_2 a0_3 a0_4 a1_0 a1_1 a1_2 a1_3 a1_4 = some r) ∧ Aside0 (kq ≤ kj13) ∧ Aside0 (w'.heap[gb255]? = some (.cells #[.int .i64 a0_0, .string a0_1, .string a0_2, .int .i64 a0_3, .int .i64 a0_4] 33 (0, 0))) ∧ Aside0 (w'.heap[gb256]? = some (.cells #[.int .i64 a1_0, .string a1_1, .string a1_2, .int .i64 a1_3, .int .i64 a1_4] 33 (0, 0))) ∧ Aside0 (Below w.heap.size w w'))
       case atStart => exact ⟨(1), (by first | rfl | (simp; done) | (simp [*]; done)), H', ⟨Nat.le_refl _⟩, ⟨by (with_reducible repeat (first | refine kDN ?_ _ | refine kDr ?_ | refine kAl ?_ _)); exact BK255.out⟩, ⟨by (with_reducible repeat (first | refine kDN ?_ _ | refine kDr ?_ | refine kAl ?_ _)); exact BK256.out⟩, ⟨by repeat (first | (with_reducible first | exact HB.out | apply bAl | apply pbD | apply bD1 | refine bSt ?_ GE255.out | refine bSt ?_ GE256.out) | exact HB.out)⟩⟩
       case round =>
        clear H'
        try clear c1
        try clear c2
        try clear p2
        try clear c4
        try clear c6
        try clear c6b0
        try clear c6b1
        try clear c7
        try clear c10
        try clear c13
        try clear c15
        try clear c15b0
        try clear c15b1
        try clear c16
        try clear c16b0
        try clear c16b1
        try clear c17
        try clear c20
        try clear c23
        try clear c25
        try clear hcz11_0
        try clear hcz11_1
        try clear hcz11_2
        try clear hcz11_3
        try clear hcz11_4
        try clear hcz12_0
        try clear hcz12_1
        try clear hcz12_2
        try clear hcz12_3
        try clear hcz12_4
        try clear hcz18_0
        try clear hcz18_1
        try clear hcz18_2
        try clear hcz18_3
        try clear hcz18_4
        try clear hcz19_0
        try clear hcz19_1
        try clear hcz19_2
        try clear hcz19_3
        try clear hcz19_4
        try clear hcz21_0
        try clear hcz21_1
        try clear hcz21_2
        try clear hcz21_3
        try clear hcz21_4
        try clear hcz22_0
        try clear hcz22_1
        try clear hcz22_2
        try clear hcz22_3
        try clear hcz22_4
        try clear hcz24_0
        try clear hcz24_1
        try clear hcz24_2
        try clear hcz24_3
        try clear hcz24_4
        try clear hcz8_0
        try clear hcz8_1
        try clear hcz8_2
        try clear hcz8_3
        try clear hcz8_4
        try clear hcz9_0
        try clear hcz9_1
        try clear hcz9_2
        try clear hcz9_3
        try clear hcz9_4
        try clear p2
        obtain ⟨x5_3, rfl, HA, HK3, BK255, BK256, HB⟩ := hrel
        cases gk with
        | zero => exact absurd HA.out (by simp [r9_Clash.l0])
        | succ k3 =>
         have H := HA.out
         clear HA
         simp only [r9_Clash.l0] at H
         by_cases c26 : x5_3 ≤ 3
         rotate_left
         ·
          rw [if_neg c26] at H
          have c26b0 : decide (x5_3 ≤ 3) = false := decide_eq_false c26
          clear c26
          have HC64 := aK H
          clear H
          go_upto_region 10 with (fail)
          go_cut [78] (fun v78 wc => ∃ (kq : Nat) (x78_63 : Bool), v78 = .bool x78_63 ∧ Aside0 (r9_Clash.j3 kq x78_63 a0_0 a0_1 a0_2 a0_3 a0_4 a1_0 a1_1 a1_2 a1_3 a1_4 = some r) ∧ Aside0 (kq ≤ k3) ∧ Aside0 (wc.heap[gb255]? = some (.cells #[.int .i64 a0_0, .string a0_1, .string a0_2, .int .i64 a0_3, .int .i64 a0_4] 33 (0, 0))) ∧ Aside0 (wc.heap[gb256]? = some (.cells #[.int .i64 a1_0, .string a1_1, .string a1_2, .int .i64 a1_3, .int .i64 a1_4] 33 (0, 0))) ∧ Aside0 (Below w.heap.size w wc))
          case first =>
           have H := HC64.out
           clear HC64
           replace H := oB H
           obtain ⟨t261, A650, H⟩ := H
           try dsimp only at H
           have A65 := aK A650
           clear A650
           by_cases c66 : t261 = true
           rotate_left
           ·
            replace c66 := Bool.eq_false_iff.mpr c66
            subst c66
            have H1 : ((r9_Kept.f a1_0 a1_1 a1_2 a1_3 a1_4).bind fun t265 => (if t265 = true then ((r9_within.f k3 a1_2 a0_2).bind fun t266 => (r9_Clash.j3 k3 t266 a0_0 a0_1 a0_2 a0_3 a0_4 a1_0 a1_1 a1_2 a1_3 a1_4)) else (r9_Clash.j3 k3 false a0_0 a0_1 a0_2 a0_3 a0_4 a1_0 a1_1 a1_2 a1_3 a1_4))) = some r := by rw [if_neg (show ¬ (false = true) by decide)] at H; exact H
            clear H
            have H := H1
            clear H1
            replace H := oB H
            obtain ⟨t265, A910, H⟩ := H
            try dsimp only at H
            have A91 := aK A910
            clear A910
            by_cases c92 : t265 = true
            rotate_left
            ·
             replace c92 := Bool.eq_false_iff.mpr c92
             subst c92
             have H1 : (r9_Clash.j3 k3 false a0_0 a0_1 a0_2 a0_3 a0_4 a1_0 a1_1 a1_2 a1_3 a1_4) = some r := by rw [if_neg (show ¬ (false = true) by decide)] at H; exact H
             clear H
             have H := H1
             clear H1
             have H' := aK H
             clear H
             have hnb101 := NB255_256.out
             have hnc101 := NB256_255.out
             have hcz102_0 : wr.cell? ⟨gb255, 0, none⟩ = some (.int .i64 a0_0) := (kCe BK255.out 0).trans rfl
             have hcz102_1 : wr.cell? ⟨gb255, 1, none⟩ = some (.string a0_1) := (kCe BK255.out 1).trans rfl
             have hcz102_2 : wr.cell? ⟨gb255, 2, none⟩ = some (.string a0_2) := (kCe BK255.out 2).trans rfl
             have hcz102_3 : wr.cell? ⟨gb255, 3, none⟩ = some (.int .i64 a0_3) := (kCe BK255.out 3).trans rfl
             have hcz102_4 : wr.cell? ⟨gb255, 4, none⟩ = some (.int .i64 a0_4) := (kCe BK255.out 4).trans rfl
             go_wp2_with (first | ((with_reducible refine gate_callee (f := 68) rfl ?_); refine goesL_ (some 60) rfl rfl Try.func68 (by kernel_rfl) rfl #[.agg #[.int .i64 a0_0, .string a0_1, .string a0_2, .int .i64 a0_3, .int .i64 a0_4]] rfl (by (try simp only [qM0, qM1, qM2]); first | done | rfl | (simp only [qD0, qD1]; rfl)) ?_; (with_reducible refine (r9_Kept.calls a0_0 a0_1 a0_2 a0_3 a0_4 false _ A65.out).mono ?_); rintro e w103 ⟨rfl, hb⟩; refine ⟨_, rfl, ?_⟩; have n0_ := aK (kBe (g := gb255) (o := .cells #[.int .i64 a0_0, .string a0_1, .string a0_2, .int .i64 a0_3, .int .i64 a0_4] 33 (0, 0)) (by (with_reducible repeat (first | refine kDN ?_ _ | refine kDr ?_ | refine kAl ?_ _)); exact BK255.out) hb); have n1_ := aK (kBe (g := gb256) (o := .cells #[.int .i64 a1_0, .string a1_1, .string a1_2, .int .i64 a1_3, .int .i64 a1_4] 33 (0, 0)) (by (with_reducible repeat (first | refine kDN ?_ _ | refine kDr ?_ | refine kAl ?_ _)); exact BK256.out) hb); have n2_ := aK (bSp (by repeat (first | (with_reducible first | exact HB.out | apply bAl | apply pbD | apply bD1 | refine bSt ?_ GE255.out | refine bSt ?_ GE256.out) | exact HB.out)) hb); clear BK255; clear BK256; clear HB; have BK255 := n0_; have BK256 := n1_; have HB := n2_; clear n0_ n1_ n2_; (try clear hb); (try clear hb2); (try clear hk); (try clear hi); have hcz104_0 : w103.cell? ⟨gb256, 0, none⟩ = some (.int .i64 a1_0) := (kCe BK256.out 0).trans rfl; have hcz104_1 : w103.cell? ⟨gb256, 1, none⟩ = some (.string a1_1) := (kCe BK256.out 1).trans rfl; have hcz104_2 : w103.cell? ⟨gb256, 2, none⟩ = some (.string a1_2) := (kCe BK256.out 2).trans rfl; have hcz104_3 : w103.cell? ⟨gb256, 3, none⟩ = some (.int .i64 a1_3) := (kCe BK256.out 3).trans rfl; have hcz104_4 : w103.cell? ⟨gb256, 4, none⟩ = some (.int .i64 a1_4) := (kCe BK256.out 4).trans rfl) | (go_at_call 68; (with_reducible refine (r9_Kept.calls a1_0 a1_1 a1_2 a1_3 a1_4 false _ A91.out).mono ?_); rintro e w105 ⟨rfl, hb⟩; have n0_ := aK (kBe (g := gb255) (o := .cells #[.int .i64 a0_0, .string a0_1, .string a0_2, .int .i64 a0_3, .int .i64 a0_4] 33 (0, 0)) (by (with_reducible repeat (first | refine kDN ?_ _ | refine kDr ?_ | refine kAl ?_ _)); exact BK255.out) hb); have n1_ := aK (kBe (g := gb256) (o := .cells #[.int .i64 a1_0, .string a1_1, .string a1_2, .int .i64 a1_3, .int .i64 a1_4] 33 (0, 0)) (by (with_reducible repeat (first | refine kDN ?_ _ | refine kDr ?_ | refine kAl ?_ _)); exact BK256.out) hb); have n2_ := aK (bSp (by repeat (first | (with_reducible first | exact HB.out | apply bAl | apply pbD | apply bD1 | refine bSt ?_ GE255.out | refine bSt ?_ GE256.out) | exact HB.out)) hb); clear BK255; clear BK256; clear HB; have BK255 := n0_; have BK256 := n1_; have HB := n2_; clear n0_ n1_ n2_; (try clear hb); (try clear hb2); (try clear hk); (try clear hi)))
             go_meet
             case rel => exact ⟨_, (false), (by first | rfl | (simp; done) | (simp [*]; done)), H', ⟨by have := HJ2.out; have := HJ13.out; have := HK3.out; first | omega | exact Nat.le_refl _⟩, ⟨by (with_reducible repeat (first | refine kDN ?_ _ | refine kDr ?_ | refine kAl ?_ _)); exact BK255.out⟩, ⟨by (with_reducible repeat (first | refine kDN ?_ _ | refine kDr ?_ | refine kAl ?_ _)); exact BK256.out⟩, ⟨by repeat (first | (with_reducible first | exact HB.out | apply bAl | apply pbD | apply bD1 | refine bSt ?_ GE255.out | refine bSt ?_ GE256.out) | exact HB.out)⟩⟩
            subst c92
            have H1 : ((r9_within.f k3 a1_2 a0_2).bind fun t266 => (r9_Clash.j3 k3 t266 a0_0 a0_1 a0_2 a0_3 a0_4 a1_0 a1_1 a1_2 a1_3 a1_4)) = some r := by rw [if_pos rfl] at H; exact H
            clear H
            have H := H1
            clear H1
            replace H := oB H
            obtain ⟨t266, A930, H⟩ := H
            try dsimp only at H
            have A93 := aK A930
            clear A930
            have H' := aK H
            clear H
            have hnb94 := NB255_256.out
            have hnc94 := NB256_255.out
            have hcz95_0 : wr.cell? ⟨gb255, 0, none⟩ = some (.int .i64 a0_0) := (kCe BK255.out 0).trans rfl
            have hcz95_1 : wr.cell? ⟨gb255, 1, none⟩ = some (.string a0_1) := (kCe BK255.out 1).trans rfl
            have hcz95_2 : wr.cell? ⟨gb255, 2, none⟩ = some (.string a0_2) := (kCe BK255.out 2).trans rfl
            have hcz95_3 : wr.cell? ⟨gb255, 3, none⟩ = some (.int .i64 a0_3) := (kCe BK255.out 3).trans rfl
            have hcz95_4 : wr.cell? ⟨gb255, 4, none⟩ = some (.int .i64 a0_4) := (kCe BK255.out 4).trans rfl
            go_wp2_with (first | ((with_reducible refine gate_callee (f := 68) rfl ?_); refine goesL_ (some 60) rfl rfl Try.func68 (by kernel_rfl) rfl #[.agg #[.int .i64 a0_0, .string a0_1, .string a0_2, .int .i64 a0_3, .int .i64 a0_4]] rfl (by (try simp only [qM0, qM1, qM2]); first | done | rfl | (simp only [qD0, qD1]; rfl)) ?_; (with_reducible refine (r9_Kept.calls a0_0 a0_1 a0_2 a0_3 a0_4 false _ A65.out).mono ?_); rintro e w96 ⟨rfl, hb⟩; refine ⟨_, rfl, ?_⟩; have n0_ := aK (kBe (g := gb255) (o := .cells #[.int .i64 a0_0, .string a0_1, .string a0_2, .int .i64 a0_3, .int .i64 a0_4] 33 (0, 0)) (by (with_reducible repeat (first | refine kDN ?_ _ | refine kDr ?_ | refine kAl ?_ _)); exact BK255.out) hb); have n1_ := aK (kBe (g := gb256) (o := .cells #[.int .i64 a1_0, .string a1_1, .string a1_2, .int .i64 a1_3, .int .i64 a1_4] 33 (0, 0)) (by (with_reducible repeat (first | refine kDN ?_ _ | refine kDr ?_ | refine kAl ?_ _)); exact BK256.out) hb); have n2_ := aK (bSp (by repeat (first | (with_reducible first | exact HB.out | apply bAl | apply pbD | apply bD1 | refine bSt ?_ GE255.out | refine bSt ?_ GE256.out) | exact HB.out)) hb); clear BK255; clear BK256; clear HB; have BK255 := n0_; have BK256 := n1_; have HB := n2_; clear n0_ n1_ n2_; (try clear hb); (try clear hb2); (try clear hk); (try clear hi); have hcz97_0 : w96.cell? ⟨gb256, 0, none⟩ = some (.int .i64 a1_0) := (kCe BK256.out 0).trans rfl; have hcz97_1 : w96.cell? ⟨gb256, 1, none⟩ = some (.string a1_1) := (kCe BK256.out 1).trans rfl; have hcz97_2 : w96.cell? ⟨gb256, 2, none⟩ = some (.string a1_2) := (kCe BK256.out 2).trans rfl; have hcz97_3 : w96.cell? ⟨gb256, 3, none⟩ = some (.int .i64 a1_3) := (kCe BK256.out 3).trans rfl; have hcz97_4 : w96.cell? ⟨gb256, 4, none⟩ = some (.int .i64 a1_4) := (kCe BK256.out 4).trans rfl) | (go_at_call 68; (with_reducible refine (r9_Kept.calls a1_0 a1_1 a1_2 a1_3 a1_4 true _ A91.out).mono ?_); rintro e w98 ⟨rfl, hb⟩; have n0_ := aK (kBe (g := gb255) (o := .cells #[.int .i64 a0_0, .string a0_1, .string a0_2, .int .i64 a0_3, .int .i64 a0_4] 33 (0, 0)) (by (with_reducible repeat (first | refine kDN ?_ _ | refine kDr ?_ | refine kAl ?_ _)); exact BK255.out) hb); have n1_ := aK (kBe (g := gb256) (o := .cells #[.int .i64 a1_0, .string a1_1, .string a1_2, .int .i64 a1_3, .int .i64 a1_4] 33 (0, 0)) (by (with_reducible repeat (first | refine kDN ?_ _ | refine kDr ?_ | refine kAl ?_ _)); exact BK256.out) hb); have n2_ := aK (bSp (by repeat (first | (with_reducible first | exact HB.out | apply bAl | apply pbD | apply bD1 | refine bSt ?_ GE255.out | refine bSt ?_ GE256.out) | exact HB.out)) hb); clear BK255; clear BK256; clear HB; have BK255 := n0_; have BK256 := n1_; have HB := n2_; clear n0_ n1_ n2_; (try clear hb); (try clear hb2); (try clear hk); (try clear hi); have hcz99_0 : w98.cell? ⟨gb256, 0, none⟩ = some (.int .i64 a1_0) := (kCe BK256.out 0).trans rfl; have hcz99_1 : w98.cell? ⟨gb256, 1, none⟩ = some (.string a1_1) := (kCe BK256.out 1).trans rfl; have hcz99_2 : w98.cell? ⟨gb256, 2, none⟩ = some (.string a1_2) := (kCe BK256.out 2).trans rfl; have hcz99_3 : w98.cell? ⟨gb256, 3, none⟩ = some (.int .i64 a1_3) := (kCe BK256.out 3).trans rfl; have hcz99_4 : w98.cell? ⟨gb256, 4, none⟩ = some (.int .i64 a1_4) := (kCe BK256.out 4).trans rfl; have hcz100_0 : w98.cell? ⟨gb255, 0, none⟩ = some (.int .i64 a0_0) := (kCe BK255.out 0).trans rfl; have hcz100_1 : w98.cell? ⟨gb255, 1, none⟩ = some (.string a0_1) := (kCe BK255.out 1).trans rfl; have hcz100_2 : w98.cell? ⟨gb255, 2, none⟩ = some (.string a0_2) := (kCe BK255.out 2).trans rfl; have hcz100_3 : w98.cell? ⟨gb255, 3, none⟩ = some (.int .i64 a0_3) := (kCe BK255.out 3).trans rfl; have hcz100_4 : w98.cell? ⟨gb255, 4, none⟩ = some (.int .i64 a0_4) := (kCe BK255.out 4).trans rfl) | (go_at_call 70; (with_reducible refine (r9_within.calls k3 a1_2 a0_2 t266 _ A93.out).mono ?_); rintro e w' ⟨rfl, ⟨nd, rfl⟩⟩))
            go_meet
            case rel => exact ⟨_, (t266), (by first | rfl | (simp; done) | (simp [*]; done)), H', ⟨by have := HJ2.out; have := HJ13.out; have := HK3.out; first | omega | exact Nat.le_refl _⟩, ⟨by (with_reducible repeat (first | refine kDN ?_ _ | refine kDr ?_ | refine kAl ?_ _)); exact BK255.out⟩, ⟨by (with_reducible repeat (first | refine kDN ?_ _ | refine kDr ?_ | refine kAl ?_ _)); exact BK256.out⟩, ⟨by repeat (first | (with_reducible first | exact HB.out | apply bAl | apply pbD | apply bD1 | refine bSt ?_ GE255.out | refine bSt ?_ GE256.out) | exact HB.out)⟩⟩
           subst c66
           have H1 : ((r9_within.f k3 a0_2 a1_2).bind fun t262 => (if t262 = true then (r9_Clash.j3 k3 true a0_0 a0_1 a0_2 a0_3 a0_4 a1_0 a1_1 a1_2 a1_3 a1_4) else ((r9_Kept.f a1_0 a1_1 a1_2 a1_3 a1_4).bind fun t263 => (if t263 = true then ((r9_within.f k3 a1_2 a0_2).bind fun t264 => (r9_Clash.j3 k3 t264 a0_0 a0_1 a0_2 a0_3 a0_4 a1_0 a1_1 a1_2 a1_3 a1_4)) else (r9_Clash.j3 k3 false a0_0 a0_1 a0_2 a0_3 a0_4 a1_0 a1_1 a1_2 a1_3 a1_4))))) = some r := by rw [if_pos rfl] at H; exact H
           clear H
           have H := H1
           clear H1
           replace H := oB H
           obtain ⟨t262, A670, H⟩ := H
           try dsimp only at H
           have A67 := aK A670
           clear A670
           by_cases c68 : t262 = true
           rotate_left
           ·
            replace c68 := Bool.eq_false_iff.mpr c68
            subst c68
            have H1 : ((r9_Kept.f a1_0 a1_1 a1_2 a1_3 a1_4).bind fun t263 => (if t263 = true then ((r9_within.f k3 a1_2 a0_2).bind fun t264 => (r9_Clash.j3 k3 t264 a0_0 a0_1 a0_2 a0_3 a0_4 a1_0 a1_1 a1_2 a1_3 a1_4)) else (r9_Clash.j3 k3 false a0_0 a0_1 a0_2 a0_3 a0_4 a1_0 a1_1 a1_2 a1_3 a1_4))) = some r := by rw [if_neg (show ¬ (false = true) by decide)] at H; exact H
            clear H
            have H := H1
            clear H1
            replace H := oB H
            obtain ⟨t263, A740, H⟩ := H
            try dsimp only at H
            have A74 := aK A740
            clear A740
            by_cases c75 : t263 = true
            rotate_left
            ·
             replace c75 := Bool.eq_false_iff.mpr c75
             subst c75
             have H1 : (r9_Clash.j3 k3 false a0_0 a0_1 a0_2 a0_3 a0_4 a1_0 a1_1 a1_2 a1_3 a1_4) = some r := by rw [if_neg (show ¬ (false = true) by decide)] at H; exact H
             clear H
             have H := H1
             clear H1
             have H' := aK H
             clear H
             have hnb85 := NB255_256.out
             have hnc85 := NB256_255.out
             have hcz86_0 : wr.cell? ⟨gb255, 0, none⟩ = some (.int .i64 a0_0) := (kCe BK255.out 0).trans rfl
             have hcz86_1 : wr.cell? ⟨gb255, 1, none⟩ = some (.string a0_1) := (kCe BK255.out 1).trans rfl
             have hcz86_2 : wr.cell? ⟨gb255, 2, none⟩ = some (.string a0_2) := (kCe BK255.out 2).trans rfl
             have hcz86_3 : wr.cell? ⟨gb255, 3, none⟩ = some (.int .i64 a0_3) := (kCe BK255.out 3).trans rfl
             have hcz86_4 : wr.cell? ⟨gb255, 4, none⟩ = some (.int .i64 a0_4) := (kCe BK255.out 4).trans rfl
             go_wp2_with (first | ((with_reducible refine gate_callee (f := 68) rfl ?_); refine goesL_ (some 60) rfl rfl Try.func68 (by kernel_rfl) rfl #[.agg #[.int .i64 a0_0, .string a0_1, .string a0_2, .int .i64 a0_3, .int .i64 a0_4]] rfl (by (try simp only [qM0, qM1, qM2]); first | done | rfl | (simp only [qD0, qD1]; rfl)) ?_; (with_reducible refine (r9_Kept.calls a0_0 a0_1 a0_2 a0_3 a0_4 true _ A65.out).mono ?_); rintro e w87 ⟨rfl, hb⟩; refine ⟨_, rfl, ?_⟩; have n0_ := aK (kBe (g := gb255) (o := .cells #[.int .i64 a0_0, .string a0_1, .string a0_2, .int .i64 a0_3, .int .i64 a0_4] 33 (0, 0)) (by (with_reducible repeat (first | refine kDN ?_ _ | refine kDr ?_ | refine kAl ?_ _)); exact BK255.out) hb); have n1_ := aK (kBe (g := gb256) (o := .cells #[.int .i64 a1_0, .string a1_1, .string a1_2, .int .i64 a1_3, .int .i64 a1_4] 33 (0, 0)) (by (with_reducible repeat (first | refine kDN ?_ _ | refine kDr ?_ | refine kAl ?_ _)); exact BK256.out) hb); have n2_ := aK (bSp (by repeat (first | (with_reducible first | exact HB.out | apply bAl | apply pbD | apply bD1 | refine bSt ?_ GE255.out | refine bSt ?_ GE256.out) | exact HB.out)) hb); clear BK255; clear BK256; clear HB; have BK255 := n0_; have BK256 := n1_; have HB := n2_; clear n0_ n1_ n2_; (try clear hb); (try clear hb2); (try clear hk); (try clear hi); have hcz88_0 : w87.cell? ⟨gb255, 0, none⟩ = some (.int .i64 a0_0) := (kCe BK255.out 0).trans rfl; have hcz88_1 : w87.cell? ⟨gb255, 1, none⟩ = some (.string a0_1) := (kCe BK255.out 1).trans rfl; have hcz88_2 : w87.cell? ⟨gb255, 2, none⟩ = some (.string a0_2) := (kCe BK255.out 2).trans rfl; have hcz88_3 : w87.cell? ⟨gb255, 3, none⟩ = some (.int .i64 a0_3) := (kCe BK255.out 3).trans rfl; have hcz88_4 : w87.cell? ⟨gb255, 4, none⟩ = some (.int .i64 a0_4) := (kCe BK255.out 4).trans rfl; have hcz89_0 : w87.cell? ⟨gb256, 0, none⟩ = some (.int .i64 a1_0) := (kCe BK256.out 0).trans rfl; have hcz89_1 : w87.cell? ⟨gb256, 1, none⟩ = some (.string a1_1) := (kCe BK256.out 1).trans rfl; have hcz89_2 : w87.cell? ⟨gb256, 2, none⟩ = some (.string a1_2) := (kCe BK256.out 2).trans rfl; have hcz89_3 : w87.cell? ⟨gb256, 3, none⟩ = some (.int .i64 a1_3) := (kCe BK256.out 3).trans rfl; have hcz89_4 : w87.cell? ⟨gb256, 4, none⟩ = some (.int .i64 a1_4) := (kCe BK256.out 4).trans rfl) | (go_at_call 70; (with_reducible refine (r9_within.calls k3 a0_2 a1_2 false _ A67.out).mono ?_); rintro e w' ⟨rfl, ⟨nd, rfl⟩⟩) | (go_at_call 68; (with_reducible refine (r9_Kept.calls a1_0 a1_1 a1_2 a1_3 a1_4 false _ A74.out).mono ?_); rintro e w90 ⟨rfl, hb⟩; have n0_ := aK (kBe (g := gb255) (o := .cells #[.int .i64 a0_0, .string a0_1, .string a0_2, .int .i64 a0_3, .int .i64 a0_4] 33 (0, 0)) (by (with_reducible repeat (first | refine kDN ?_ _ | refine kDr ?_ | refine kAl ?_ _)); exact BK255.out) hb); have n1_ := aK (kBe (g := gb256) (o := .cells #[.int .i64 a1_0, .string a1_1, .string a1_2, .int .i64 a1_3, .int .i64 a1_4] 33 (0, 0)) (by (with_reducible repeat (first | refine kDN ?_ _ | refine kDr ?_ | refine kAl ?_ _)); exact BK256.out) hb); have n2_ := aK (bSp (by repeat (first | (with_reducible first | exact HB.out | apply bAl | apply pbD | apply bD1 | refine bSt ?_ GE255.out | refine bSt ?_ GE256.out) | exact HB.out)) hb); clear BK255; clear BK256; clear HB; have BK255 := n0_; have BK256 := n1_; have HB := n2_; clear n0_ n1_ n2_; (try clear hb); (try clear hb2); (try clear hk); (try clear hi)))
             go_meet
             case rel => exact ⟨_, (false), (by first | rfl | (simp; done) | (simp [*]; done)), H', ⟨by have := HJ2.out; have := HJ13.out; have := HK3.out; first | omega | exact Nat.le_refl _⟩, ⟨by (with_reducible repeat (first | refine kDN ?_ _ | refine kDr ?_ | refine kAl ?_ _)); exact BK255.out⟩, ⟨by (with_reducible repeat (first | refine kDN ?_ _ | refine kDr ?_ | refine kAl ?_ _)); exact BK256.out⟩, ⟨by repeat (first | (with_reducible first | exact HB.out | apply bAl | apply pbD | apply bD1 | refine bSt ?_ GE255.out | refine bSt ?_ GE256.out) | exact HB.out)⟩⟩
            subst c75
            have H1 : ((r9_within.f k3 a1_2 a0_2).bind fun t264 => (r9_Clash.j3 k3 t264 a0_0 a0_1 a0_2 a0_3 a0_4 a1_0 a1_1 a1_2 a1_3 a1_4)) = some r := by rw [if_pos rfl] at H; exact H
            clear H
            have H := H1
            clear H1
            replace H := oB H
            obtain ⟨t264, A760, H⟩ := H
            try dsimp only at H
            have A76 := aK A760
            clear A760
            have H' := aK H
            clear H
            have hnb77 := NB255_256.out
            have hnc77 := NB256_255.out
            have hcz78_0 : wr.cell? ⟨gb255, 0, none⟩ = some (.int .i64 a0_0) := (kCe BK255.out 0).trans rfl
            have hcz78_1 : wr.cell? ⟨gb255, 1, none⟩ = some (.string a0_1) := (kCe BK255.out 1).trans rfl
            have hcz78_2 : wr.cell? ⟨gb255, 2, none⟩ = some (.string a0_2) := (kCe BK255.out 2).trans rfl
            have hcz78_3 : wr.cell? ⟨gb255, 3, none⟩ = some (.int .i64 a0_3) := (kCe BK255.out 3).trans rfl
            have hcz78_4 : wr.cell? ⟨gb255, 4, none⟩ = some (.int .i64 a0_4) := (kCe BK255.out 4).trans rfl
            go_wp2_with (first | ((with_reducible refine gate_callee (f := 68) rfl ?_); refine goesL_ (some 60) rfl rfl Try.func68 (by kernel_rfl) rfl #[.agg #[.int .i64 a0_0, .string a0_1, .string a0_2, .int .i64 a0_3, .int .i64 a0_4]] rfl (by (try simp only [qM0, qM1, qM2]); first | done | rfl | (simp only [qD0, qD1]; rfl)) ?_; (with_reducible refine (r9_Kept.calls a0_0 a0_1 a0_2 a0_3 a0_4 true _ A65.out).mono ?_); rintro e w79 ⟨rfl, hb⟩; refine ⟨_, rfl, ?_⟩; have n0_ := aK (kBe (g := gb255) (o := .cells #[.int .i64 a0_0, .string a0_1, .string a0_2, .int .i64 a0_3, .int .i64 a0_4] 33 (0, 0)) (by (with_reducible repeat (first | refine kDN ?_ _ | refine kDr ?_ | refine kAl ?_ _)); exact BK255.out) hb); have n1_ := aK (kBe (g := gb256) (o := .cells #[.int .i64 a1_0, .string a1_1, .string a1_2, .int .i64 a1_3, .int .i64 a1_4] 33 (0, 0)) (by (with_reducible repeat (first | refine kDN ?_ _ | refine kDr ?_ | refine kAl ?_ _)); exact BK256.out) hb); have n2_ := aK (bSp (by repeat (first | (with_reducible first | exact HB.out | apply bAl | apply pbD | apply bD1 | refine bSt ?_ GE255.out | refine bSt ?_ GE256.out) | exact HB.out)) hb); clear BK255; clear BK256; clear HB; have BK255 := n0_; have BK256 := n1_; have HB := n2_; clear n0_ n1_ n2_; (try clear hb); (try clear hb2); (try clear hk); (try clear hi); have hcz80_0 : w79.cell? ⟨gb255, 0, none⟩ = some (.int .i64 a0_0) := (kCe BK255.out 0).trans rfl; have hcz80_1 : w79.cell? ⟨gb255, 1, none⟩ = some (.string a0_1) := (kCe BK255.out 1).trans rfl; have hcz80_2 : w79.cell? ⟨gb255, 2, none⟩ = some (.string a0_2) := (kCe BK255.out 2).trans rfl; have hcz80_3 : w79.cell? ⟨gb255, 3, none⟩ = some (.int .i64 a0_3) := (kCe BK255.out 3).trans rfl; have hcz80_4 : w79.cell? ⟨gb255, 4, none⟩ = some (.int .i64 a0_4) := (kCe BK255.out 4).trans rfl; have hcz81_0 : w79.cell? ⟨gb256, 0, none⟩ = some (.int .i64 a1_0) := (kCe BK256.out 0).trans rfl; have hcz81_1 : w79.cell? ⟨gb256, 1, none⟩ = some (.string a1_1) := (kCe BK256.out 1).trans rfl; have hcz81_2 : w79.cell? ⟨gb256, 2, none⟩ = some (.string a1_2) := (kCe BK256.out 2).trans rfl; have hcz81_3 : w79.cell? ⟨gb256, 3, none⟩ = some (.int .i64 a1_3) := (kCe BK256.out 3).trans rfl; have hcz81_4 : w79.cell? ⟨gb256, 4, none⟩ = some (.int .i64 a1_4) := (kCe BK256.out 4).trans rfl) | (go_at_call 70; (with_reducible refine (r9_within.calls k3 a0_2 a1_2 false _ A67.out).mono ?_); rintro e w' ⟨rfl, ⟨nd, rfl⟩⟩) | (go_at_call 68; (with_reducible refine (r9_Kept.calls a1_0 a1_1 a1_2 a1_3 a1_4 true _ A74.out).mono ?_); rintro e w82 ⟨rfl, hb⟩; have n0_ := aK (kBe (g := gb255) (o := .cells #[.int .i64 a0_0, .string a0_1, .string a0_2, .int .i64 a0_3, .int .i64 a0_4] 33 (0, 0)) (by (with_reducible repeat (first | refine kDN ?_ _ | refine kDr ?_ | refine kAl ?_ _)); exact BK255.out) hb); have n1_ := aK (kBe (g := gb256) (o := .cells #[.int .i64 a1_0, .string a1_1, .string a1_2, .int .i64 a1_3, .int .i64 a1_4] 33 (0, 0)) (by (with_reducible repeat (first | refine kDN ?_ _ | refine kDr ?_ | refine kAl ?_ _)); exact BK256.out) hb); have n2_ := aK (bSp (by repeat (first | (with_reducible first | exact HB.out | apply bAl | apply pbD | apply bD1 | refine bSt ?_ GE255.out | refine bSt ?_ GE256.out) | exact HB.out)) hb); clear BK255; clear BK256; clear HB; have BK255 := n0_; have BK256 := n1_; have HB := n2_; clear n0_ n1_ n2_; (try clear hb); (try clear hb2); (try clear hk); (try clear hi); have hcz83_0 : w82.cell? ⟨gb256, 0, none⟩ = some (.int .i64 a1_0) := (kCe BK256.out 0).trans rfl; have hcz83_1 : w82.cell? ⟨gb256, 1, none⟩ = some (.string a1_1) := (kCe BK256.out 1).trans rfl; have hcz83_2 : w82.cell? ⟨gb256, 2, none⟩ = some (.string a1_2) := (kCe BK256.out 2).trans rfl; have hcz83_3 : w82.cell? ⟨gb256, 3, none⟩ = some (.int .i64 a1_3) := (kCe BK256.out 3).trans rfl; have hcz83_4 : w82.cell? ⟨gb256, 4, none⟩ = some (.int .i64 a1_4) := (kCe BK256.out 4).trans rfl; have hcz84_0 : w82.cell? ⟨gb255, 0, none⟩ = some (.int .i64 a0_0) := (kCe BK255.out 0).trans rfl; have hcz84_1 : w82.cell? ⟨gb255, 1, none⟩ = some (.string a0_1) := (kCe BK255.out 1).trans rfl; have hcz84_2 : w82.cell? ⟨gb255, 2, none⟩ = some (.string a0_2) := (kCe BK255.out 2).trans rfl; have hcz84_3 : w82.cell? ⟨gb255, 3, none⟩ = some (.int .i64 a0_3) := (kCe BK255.out 3).trans rfl; have hcz84_4 : w82.cell? ⟨gb255, 4, none⟩ = some (.int .i64 a0_4) := (kCe BK255.out 4).trans rfl) | (go_at_call 70; (with_reducible refine (r9_within.calls k3 a1_2 a0_2 t264 _ A76.out).mono ?_); rintro e w' ⟨rfl, ⟨nd, rfl⟩⟩))
            go_meet
            case rel => exact ⟨_, (t264), (by first | rfl | (simp; done) | (simp [*]; done)), H', ⟨by have := HJ2.out; have := HJ13.out; have := HK3.out; first | omega | exact Nat.le_refl _⟩, ⟨by (with_reducible repeat (first | refine kDN ?_ _ | refine kDr ?_ | refine kAl ?_ _)); exact BK255.out⟩, ⟨by (with_reducible repeat (first | refine kDN ?_ _ | refine kDr ?_ | refine kAl ?_ _)); exact BK256.out⟩, ⟨by repeat (first | (with_reducible first | exact HB.out | apply bAl | apply pbD | apply bD1 | refine bSt ?_ GE255.out | refine bSt ?_ GE256.out) | exact HB.out)⟩⟩
           subst c68
           have H1 : (r9_Clash.j3 k3 true a0_0 a0_1 a0_2 a0_3 a0_4 a1_0 a1_1 a1_2 a1_3 a1_4) = some r := by rw [if_pos rfl] at H; exact H
           clear H
           have H := H1
           clear H1
           have H' := aK H
           clear H
           have hnb69 := NB255_256.out
           have hnc69 := NB256_255.out
           have hcz70_0 : wr.cell? ⟨gb255, 0, none⟩ = some (.int .i64 a0_0) := (kCe BK255.out 0).trans rfl
           have hcz70_1 : wr.cell? ⟨gb255, 1, none⟩ = some (.string a0_1) := (kCe BK255.out 1).trans rfl
           have hcz70_2 : wr.cell? ⟨gb255, 2, none⟩ = some (.string a0_2) := (kCe BK255.out 2).trans rfl
           have hcz70_3 : wr.cell? ⟨gb255, 3, none⟩ = some (.int .i64 a0_3) := (kCe BK255.out 3).trans rfl
           have hcz70_4 : wr.cell? ⟨gb255, 4, none⟩ = some (.int .i64 a0_4) := (kCe BK255.out 4).trans rfl
           go_wp2_with (first | ((with_reducible refine gate_callee (f := 68) rfl ?_); refine goesL_ (some 60) rfl rfl Try.func68 (by kernel_rfl) rfl #[.agg #[.int .i64 a0_0, .string a0_1, .string a0_2, .int .i64 a0_3, .int .i64 a0_4]] rfl (by (try simp only [qM0, qM1, qM2]); first | done | rfl | (simp only [qD0, qD1]; rfl)) ?_; (with_reducible refine (r9_Kept.calls a0_0 a0_1 a0_2 a0_3 a0_4 true _ A65.out).mono ?_); rintro e w71 ⟨rfl, hb⟩; refine ⟨_, rfl, ?_⟩; have n0_ := aK (kBe (g := gb255) (o := .cells #[.int .i64 a0_0, .string a0_1, .string a0_2, .int .i64 a0_3, .int .i64 a0_4] 33 (0, 0)) (by (with_reducible repeat (first | refine kDN ?_ _ | refine kDr ?_ | refine kAl ?_ _)); exact BK255.out) hb); have n1_ := aK (kBe (g := gb256) (o := .cells #[.int .i64 a1_0, .string a1_1, .string a1_2, .int .i64 a1_3, .int .i64 a1_4] 33 (0, 0)) (by (with_reducible repeat (first | refine kDN ?_ _ | refine kDr ?_ | refine kAl ?_ _)); exact BK256.out) hb); have n2_ := aK (bSp (by repeat (first | (with_reducible first | exact HB.out | apply bAl | apply pbD | apply bD1 | refine bSt ?_ GE255.out | refine bSt ?_ GE256.out) | exact HB.out)) hb); clear BK255; clear BK256; clear HB; have BK255 := n0_; have BK256 := n1_; have HB := n2_; clear n0_ n1_ n2_; (try clear hb); (try clear hb2); (try clear hk); (try clear hi); have hcz72_0 : w71.cell? ⟨gb255, 0, none⟩ = some (.int .i64 a0_0) := (kCe BK255.out 0).trans rfl; have hcz72_1 : w71.cell? ⟨gb255, 1, none⟩ = some (.string a0_1) := (kCe BK255.out 1).trans rfl; have hcz72_2 : w71.cell? ⟨gb255, 2, none⟩ = some (.string a0_2) := (kCe BK255.out 2).trans rfl; have hcz72_3 : w71.cell? ⟨gb255, 3, none⟩ = some (.int .i64 a0_3) := (kCe BK255.out 3).trans rfl; have hcz72_4 : w71.cell? ⟨gb255, 4, none⟩ = some (.int .i64 a0_4) := (kCe BK255.out 4).trans rfl; have hcz73_0 : w71.cell? ⟨gb256, 0, none⟩ = some (.int .i64 a1_0) := (kCe BK256.out 0).trans rfl; have hcz73_1 : w71.cell? ⟨gb256, 1, none⟩ = some (.string a1_1) := (kCe BK256.out 1).trans rfl; have hcz73_2 : w71.cell? ⟨gb256, 2, none⟩ = some (.string a1_2) := (kCe BK256.out 2).trans rfl; have hcz73_3 : w71.cell? ⟨gb256, 3, none⟩ = some (.int .i64 a1_3) := (kCe BK256.out 3).trans rfl; have hcz73_4 : w71.cell? ⟨gb256, 4, none⟩ = some (.int .i64 a1_4) := (kCe BK256.out 4).trans rfl) | (go_at_call 70; (with_reducible refine (r9_within.calls k3 a0_2 a1_2 true _ A67.out).mono ?_); rintro e w' ⟨rfl, ⟨nd, rfl⟩⟩))
           go_meet
           case rel => exact ⟨_, (true), (by first | rfl | (simp; done) | (simp [*]; done)), H', ⟨by have := HJ2.out; have := HJ13.out; have := HK3.out; first | omega | exact Nat.le_refl _⟩, ⟨by (with_reducible repeat (first | refine kDN ?_ _ | refine kDr ?_ | refine kAl ?_ _)); exact BK255.out⟩, ⟨by (with_reducible repeat (first | refine kDN ?_ _ | refine kDr ?_ | refine kAl ?_ _)); exact BK256.out⟩, ⟨by repeat (first | (with_reducible first | exact HB.out | apply bAl | apply pbD | apply bD1 | refine bSt ?_ GE255.out | refine bSt ?_ GE256.out) | exact HB.out)⟩⟩
          case rest =>
           clear HC64
           try clear c1
           try clear c2
           try clear p2
           try clear c3
           try clear c4
           try clear c5
           try clear c6
           try clear c6b0
           try clear c6b1
           try clear p6
           try clear c7
           try clear c8
           try clear c9
           try clear c10
           try clear c13
           try clear c15
           try clear c15b0
           try clear c15b1
           try clear c16
           try clear c16b0
           try clear c16b1
           try clear c17
           try clear c20
           try clear c23
           try clear c25
           try clear c26
           try clear c26b0
           try clear c28
           try clear c30
           try clear c32
           try clear c33
           try clear c41
           try clear c42
           try clear c49
           try clear c56
           try clear c61
           try clear p64
           try clear c66
           try clear c68
           try clear c69
           try clear c75
           try clear c77
           try clear c85
           try clear c92
           try clear c94
           try clear c101
           try clear hcz100_0
           try clear hcz100_1
           try clear hcz100_2
           try clear hcz100_3
           try clear hcz100_4
           try clear hcz102_0
           try clear hcz102_1
           try clear hcz102_2
           try clear hcz102_3
           try clear hcz102_4
           try clear hcz104_0
           try clear hcz104_1
           try clear hcz104_2
           try clear hcz104_3
           try clear hcz104_4
           try clear hcz11_0
           try clear hcz11_1
           try clear hcz11_2
           try clear hcz11_3
           try clear hcz11_4
           try clear hcz12_0
           try clear hcz12_1
           try clear hcz12_2
           try clear hcz12_3
           try clear hcz12_4
           try clear hcz18_0
           try clear hcz18_1
           try clear hcz18_2
           try clear hcz18_3
           try clear hcz18_4
           try clear hcz19_0
           try clear hcz19_1
           try clear hcz19_2
           try clear hcz19_3
           try clear hcz19_4
           try clear hcz21_0
           try clear hcz21_1
           try clear hcz21_2
           try clear hcz21_3
           try clear hcz21_4
           try clear hcz22_0
           try clear hcz22_1
           try clear hcz22_2
           try clear hcz22_3
           try clear hcz22_4
           try clear hcz24_0
           try clear hcz24_1
           try clear hcz24_2
           try clear hcz24_3
           try clear hcz24_4
           try clear hcz34_0
           try clear hcz34_1
           try clear hcz34_2
           try clear hcz34_3
           try clear hcz34_4
           try clear hcz36_0
           try clear hcz36_1
           try clear hcz36_2
           try clear hcz36_3
           try clear hcz36_4
           try clear hcz38_0
           try clear hcz38_1
           try clear hcz38_2
           try clear hcz38_3
           try clear hcz38_4
           try clear hcz39_0
           try clear hcz39_1
           try clear hcz39_2
           try clear hcz39_3
           try clear hcz39_4
           try clear hcz43_0
           try clear hcz43_1
           try clear hcz43_2
           try clear hcz43_3
           try clear hcz43_4
           try clear hcz45_0
           try clear hcz45_1
           try clear hcz45_2
           try clear hcz45_3
           try clear hcz45_4
           try clear hcz47_0
           try clear hcz47_1
           try clear hcz47_2
           try clear hcz47_3
           try clear hcz47_4
           try clear hcz48_0
           try clear hcz48_1
           try clear hcz48_2
           try clear hcz48_3
           try clear hcz48_4
           try clear hcz50_0
           try clear hcz50_1
           try clear hcz50_2
           try clear hcz50_3
           try clear hcz50_4
           try clear hcz52_0
           try clear hcz52_1
           try clear hcz52_2
           try clear hcz52_3
           try clear hcz52_4
           try clear hcz54_0
           try clear hcz54_1
           try clear hcz54_2
           try clear hcz54_3
           try clear hcz54_4
           try clear hcz55_0
           try clear hcz55_1
           try clear hcz55_2
           try clear hcz55_3
           try clear hcz55_4
           try clear hcz57_0
           try clear hcz57_1
           try clear hcz57_2
           try clear hcz57_3
           try clear hcz57_4
           try clear hcz59_0
           try clear hcz59_1
           try clear hcz59_2
           try clear hcz59_3
           try clear hcz59_4
           try clear hcz62_0
           try clear hcz62_1
           try clear hcz62_2
           try clear hcz62_3
           try clear hcz62_4
           try clear hcz70_0
           try clear hcz70_1
           try clear hcz70_2
           try clear hcz70_3
           try clear hcz70_4
           try clear hcz72_0
           try clear hcz72_1
           try clear hcz72_2
           try clear hcz72_3
           try clear hcz72_4
           try clear hcz73_0
           try clear hcz73_1
           try clear hcz73_2
           try clear hcz73_3
           try clear hcz73_4
           try clear hcz78_0
           try clear hcz78_1
           try clear hcz78_2
           try clear hcz78_3
           try clear hcz78_4
           try clear hcz80_0
           try clear hcz80_1
           try clear hcz80_2
           try clear hcz80_3
           try clear hcz80_4
           try clear hcz81_0
           try clear hcz81_1
           try clear hcz81_2
           try clear hcz81_3
           try clear hcz81_4
           try clear hcz83_0
           try clear hcz83_1
           try clear hcz83_2
           try clear hcz83_3
           try clear hcz83_4
           try clear hcz84_0
           try clear hcz84_1
           try clear hcz84_2
           try clear hcz84_3
           try clear hcz84_4
           try clear hcz86_0
           try clear hcz86_1
           try clear hcz86_2
           try clear hcz86_3
           try clear hcz86_4
           try clear hcz88_0
           try clear hcz88_1
           try clear hcz88_2
           try clear hcz88_3
           try clear hcz88_4
           try clear hcz89_0
           try clear hcz89_1
           try clear hcz89_2
           try clear hcz89_3
           try clear hcz89_4
           try clear hcz8_0
           try clear hcz8_1
           try clear hcz8_2
           try clear hcz8_3
           try clear hcz8_4
           try clear hcz95_0
           try clear hcz95_1
           try clear hcz95_2
           try clear hcz95_3
           try clear hcz95_4
           try clear hcz97_0
           try clear hcz97_1
           try clear hcz97_2
           try clear hcz97_3
           try clear hcz97_4
           try clear hcz99_0
           try clear hcz99_1
           try clear hcz99_2
           try clear hcz99_3
           try clear hcz99_4
           try clear hcz9_0
           try clear hcz9_1
           try clear hcz9_2
           try clear hcz9_3
           try clear hcz9_4
           try clear p2
           obtain ⟨kq, x78_63, rfl, HA, HJ63, BK255, BK256, HB⟩ := hcut
           cases kq with
           | zero => exact absurd HA.out (by simp [r9_Clash.j3])
           | succ kj63 =>
            have H := HA.out
            clear HA
            simp only [r9_Clash.j3] at H
            by_cases c106 : x78_63 = true
            rotate_left
            ·
             replace c106 := Bool.eq_false_iff.mpr c106
             subst c106
             have H1 : (if a0_0 = 8 then (if a1_0 = 5 then ((r9_Begins.f a0_2 a1_2).bind fun t267 => (if t267 = true then (some true) else (if a1_0 = 8 then (if a0_0 = 5 then ((r9_Begins.f a1_2 a0_2).bind fun t268 => (some t268)) else (some false)) else (some false)))) else (if a1_0 = 8 then (if a0_0 = 5 then ((r9_Begins.f a1_2 a0_2).bind fun t269 => (some t269)) else (some false)) else (some false))) else (if a1_0 = 8 then (if a0_0 = 5 then ((r9_Begins.f a1_2 a0_2).bind fun t270 => (some t270)) else (some false)) else (some false))) = some r := by rw [if_neg (show ¬ (false = true) by decide)] at H; exact H
             clear H
             have H := H1
             clear H1
             by_cases c107 : a0_0 = 8
             rotate_left
             ·
              rw [if_neg c107] at H
              have c107b0 : (a0_0 == 8) = false := beq_eq_false_iff_ne.mpr c107
              have c107b1 : (a0_0 != 8) = true := bne_iff_ne.mpr c107
              by_cases c138 : a1_0 = 8
              rotate_left
              ·
               rw [if_neg c138] at H
               have c138b0 : (a1_0 == 8) = false := beq_eq_false_iff_ne.mpr c138
               have c138b1 : (a1_0 != 8) = true := bne_iff_ne.mpr c138
               obtain rfl := oI H
               have hnb147 := NB255_256.out
               have hnc147 := NB256_255.out
               have hcz148_0 : wc.cell? ⟨gb255, 0, none⟩ = some (.int .i64 a0_0) := (kCe BK255.out 0).trans rfl
               have hcz148_1 : wc.cell? ⟨gb255, 1, none⟩ = some (.string a0_1) := (kCe BK255.out 1).trans rfl
               have hcz148_2 : wc.cell? ⟨gb255, 2, none⟩ = some (.string a0_2) := (kCe BK255.out 2).trans rfl
               have hcz148_3 : wc.cell? ⟨gb255, 3, none⟩ = some (.int .i64 a0_3) := (kCe BK255.out 3).trans rfl
               have hcz148_4 : wc.cell? ⟨gb255, 4, none⟩ = some (.int .i64 a0_4) := (kCe BK255.out 4).trans rfl
               have hcz149_0 : wc.cell? ⟨gb256, 0, none⟩ = some (.int .i64 a1_0) := (kCe BK256.out 0).trans rfl
               have hcz149_1 : wc.cell? ⟨gb256, 1, none⟩ = some (.string a1_1) := (kCe BK256.out 1).trans rfl
               have hcz149_2 : wc.cell? ⟨gb256, 2, none⟩ = some (.string a1_2) := (kCe BK256.out 2).trans rfl
               have hcz149_3 : wc.cell? ⟨gb256, 3, none⟩ = some (.int .i64 a1_3) := (kCe BK256.out 3).trans rfl
               have hcz149_4 : wc.cell? ⟨gb256, 4, none⟩ = some (.int .i64 a1_4) := (kCe BK256.out 4).trans rfl
               go_wp2
               go_ret
               exact ⟨by first | rfl | (simp [eWn, eWs] <;> rfl) | (simp [*, eWn, eWs] <;> rfl), by repeat (first | (with_reducible first | exact HB.out | apply bAl | apply pbD | apply bD1 | refine bSt ?_ GE255.out | refine bSt ?_ GE256.out) | exact HB.out)⟩
              rw [if_pos c138] at H
              have c138b0 : (a1_0 == 8) = true := beq_iff_eq.mpr c138
              have c138b1 : (a1_0 != 8) = false := bne_eq_false_iff_eq.mpr c138
              clear c138
              by_cases c139 : a0_0 = 5
              rotate_left
              ·
               rw [if_neg c139] at H
               have c139b0 : (a0_0 == 5) = false := beq_eq_false_iff_ne.mpr c139
               have c139b1 : (a0_0 != 5) = true := bne_iff_ne.mpr c139
               obtain rfl := oI H
               have hnb144 := NB255_256.out
               have hnc144 := NB256_255.out
               have hcz145_0 : wc.cell? ⟨gb255, 0, none⟩ = some (.int .i64 a0_0) := (kCe BK255.out 0).trans rfl
               have hcz145_1 : wc.cell? ⟨gb255, 1, none⟩ = some (.string a0_1) := (kCe BK255.out 1).trans rfl
               have hcz145_2 : wc.cell? ⟨gb255, 2, none⟩ = some (.string a0_2) := (kCe BK255.out 2).trans rfl
               have hcz145_3 : wc.cell? ⟨gb255, 3, none⟩ = some (.int .i64 a0_3) := (kCe BK255.out 3).trans rfl
               have hcz145_4 : wc.cell? ⟨gb255, 4, none⟩ = some (.int .i64 a0_4) := (kCe BK255.out 4).trans rfl
               have hcz146_0 : wc.cell? ⟨gb256, 0, none⟩ = some (.int .i64 a1_0) := (kCe BK256.out 0).trans rfl
               have hcz146_1 : wc.cell? ⟨gb256, 1, none⟩ = some (.string a1_1) := (kCe BK256.out 1).trans rfl
               have hcz146_2 : wc.cell? ⟨gb256, 2, none⟩ = some (.string a1_2) := (kCe BK256.out 2).trans rfl
               have hcz146_3 : wc.cell? ⟨gb256, 3, none⟩ = some (.int .i64 a1_3) := (kCe BK256.out 3).trans rfl
               have hcz146_4 : wc.cell? ⟨gb256, 4, none⟩ = some (.int .i64 a1_4) := (kCe BK256.out 4).trans rfl
               go_wp2
               go_ret
               exact ⟨by first | rfl | (simp [eWn, eWs] <;> rfl) | (simp [*, eWn, eWs] <;> rfl), by repeat (first | (with_reducible first | exact HB.out | apply bAl | apply pbD | apply bD1 | refine bSt ?_ GE255.out | refine bSt ?_ GE256.out) | exact HB.out)⟩
              rw [if_pos c139] at H
              have c139b0 : (a0_0 == 5) = true := beq_iff_eq.mpr c139
              have c139b1 : (a0_0 != 5) = false := bne_eq_false_iff_eq.mpr c139
              clear c139
              replace H := oB H
              obtain ⟨t270, A1400, H⟩ := H
              replace H : (some t270) = some r := H
              have A140 := aK A1400
              clear A1400
              obtain rfl := oI H
              have hnb141 := NB255_256.out
              have hnc141 := NB256_255.out
              have hcz142_0 : wc.cell? ⟨gb255, 0, none⟩ = some (.int .i64 a0_0) := (kCe BK255.out 0).trans rfl
              have hcz142_1 : wc.cell? ⟨gb255, 1, none⟩ = some (.string a0_1) := (kCe BK255.out 1).trans rfl
              have hcz142_2 : wc.cell? ⟨gb255, 2, none⟩ = some (.string a0_2) := (kCe BK255.out 2).trans rfl
              have hcz142_3 : wc.cell? ⟨gb255, 3, none⟩ = some (.int .i64 a0_3) := (kCe BK255.out 3).trans rfl
              have hcz142_4 : wc.cell? ⟨gb255, 4, none⟩ = some (.int .i64 a0_4) := (kCe BK255.out 4).trans rfl
              have hcz143_0 : wc.cell? ⟨gb256, 0, none⟩ = some (.int .i64 a1_0) := (kCe BK256.out 0).trans rfl
              have hcz143_1 : wc.cell? ⟨gb256, 1, none⟩ = some (.string a1_1) := (kCe BK256.out 1).trans rfl
              have hcz143_2 : wc.cell? ⟨gb256, 2, none⟩ = some (.string a1_2) := (kCe BK256.out 2).trans rfl
              have hcz143_3 : wc.cell? ⟨gb256, 3, none⟩ = some (.int .i64 a1_3) := (kCe BK256.out 3).trans rfl
              have hcz143_4 : wc.cell? ⟨gb256, 4, none⟩ = some (.int .i64 a1_4) := (kCe BK256.out 4).trans rfl
              go_wp2_with (first | (go_at_call 50; (with_reducible refine (r9_Begins.calls a1_2 a0_2 t270 _ A140.out).mono ?_); rintro e w' ⟨rfl, ⟨nd, rfl⟩⟩))
              go_ret
              exact ⟨by first | rfl | (simp [eWn, eWs] <;> rfl) | (simp [*, eWn, eWs] <;> rfl), by repeat (first | (with_reducible first | exact HB.out | apply bAl | apply pbD | apply bD1 | refine bSt ?_ GE255.out | refine bSt ?_ GE256.out) | exact HB.out)⟩
             rw [if_pos c107] at H
             have c107b0 : (a0_0 == 8) = true := beq_iff_eq.mpr c107
             have c107b1 : (a0_0 != 8) = false := bne_eq_false_iff_eq.mpr c107
             clear c107
             by_cases c108 : a1_0 = 5
             rotate_left
             ·
              rw [if_neg c108] at H
              have c108b0 : (a1_0 == 5) = false := beq_eq_false_iff_ne.mpr c108
              have c108b1 : (a1_0 != 5) = true := bne_iff_ne.mpr c108
              by_cases c126 : a1_0 = 8
              rotate_left
              ·
               rw [if_neg c126] at H
               have c126b0 : (a1_0 == 8) = false := beq_eq_false_iff_ne.mpr c126
               have c126b1 : (a1_0 != 8) = true := bne_iff_ne.mpr c126
               obtain rfl := oI H
               have hnb135 := NB255_256.out
               have hnc135 := NB256_255.out
               have hcz136_0 : wc.cell? ⟨gb255, 0, none⟩ = some (.int .i64 a0_0) := (kCe BK255.out 0).trans rfl
               have hcz136_1 : wc.cell? ⟨gb255, 1, none⟩ = some (.string a0_1) := (kCe BK255.out 1).trans rfl
               have hcz136_2 : wc.cell? ⟨gb255, 2, none⟩ = some (.string a0_2) := (kCe BK255.out 2).trans rfl
               have hcz136_3 : wc.cell? ⟨gb255, 3, none⟩ = some (.int .i64 a0_3) := (kCe BK255.out 3).trans rfl
               have hcz136_4 : wc.cell? ⟨gb255, 4, none⟩ = some (.int .i64 a0_4) := (kCe BK255.out 4).trans rfl
               have hcz137_0 : wc.cell? ⟨gb256, 0, none⟩ = some (.int .i64 a1_0) := (kCe BK256.out 0).trans rfl
               have hcz137_1 : wc.cell? ⟨gb256, 1, none⟩ = some (.string a1_1) := (kCe BK256.out 1).trans rfl
               have hcz137_2 : wc.cell? ⟨gb256, 2, none⟩ = some (.string a1_2) := (kCe BK256.out 2).trans rfl
               have hcz137_3 : wc.cell? ⟨gb256, 3, none⟩ = some (.int .i64 a1_3) := (kCe BK256.out 3).trans rfl
               have hcz137_4 : wc.cell? ⟨gb256, 4, none⟩ = some (.int .i64 a1_4) := (kCe BK256.out 4).trans rfl
               go_wp2
               go_ret
               exact ⟨by first | rfl | (simp [eWn, eWs] <;> rfl) | (simp [*, eWn, eWs] <;> rfl), by repeat (first | (with_reducible first | exact HB.out | apply bAl | apply pbD | apply bD1 | refine bSt ?_ GE255.out | refine bSt ?_ GE256.out) | exact HB.out)⟩
              rw [if_pos c126] at H
              have c126b0 : (a1_0 == 8) = true := beq_iff_eq.mpr c126
              have c126b1 : (a1_0 != 8) = false := bne_eq_false_iff_eq.mpr c126
              clear c126
              by_cases c127 : a0_0 = 5
              rotate_left
              ·
               rw [if_neg c127] at H
               have c127b0 : (a0_0 == 5) = false := beq_eq_false_iff_ne.mpr c127
               have c127b1 : (a0_0 != 5) = true := bne_iff_ne.mpr c127
               obtain rfl := oI H
               have hnb132 := NB255_256.out
               have hnc132 := NB256_255.out
               have hcz133_0 : wc.cell? ⟨gb255, 0, none⟩ = some (.int .i64 a0_0) := (kCe BK255.out 0).trans rfl
               have hcz133_1 : wc.cell? ⟨gb255, 1, none⟩ = some (.string a0_1) := (kCe BK255.out 1).trans rfl
               have hcz133_2 : wc.cell? ⟨gb255, 2, none⟩ = some (.string a0_2) := (kCe BK255.out 2).trans rfl
               have hcz133_3 : wc.cell? ⟨gb255, 3, none⟩ = some (.int .i64 a0_3) := (kCe BK255.out 3).trans rfl
               have hcz133_4 : wc.cell? ⟨gb255, 4, none⟩ = some (.int .i64 a0_4) := (kCe BK255.out 4).trans rfl
               have hcz134_0 : wc.cell? ⟨gb256, 0, none⟩ = some (.int .i64 a1_0) := (kCe BK256.out 0).trans rfl
               have hcz134_1 : wc.cell? ⟨gb256, 1, none⟩ = some (.string a1_1) := (kCe BK256.out 1).trans rfl
               have hcz134_2 : wc.cell? ⟨gb256, 2, none⟩ = some (.string a1_2) := (kCe BK256.out 2).trans rfl
               have hcz134_3 : wc.cell? ⟨gb256, 3, none⟩ = some (.int .i64 a1_3) := (kCe BK256.out 3).trans rfl
               have hcz134_4 : wc.cell? ⟨gb256, 4, none⟩ = some (.int .i64 a1_4) := (kCe BK256.out 4).trans rfl
               go_wp2
               go_ret
               exact ⟨by first | rfl | (simp [eWn, eWs] <;> rfl) | (simp [*, eWn, eWs] <;> rfl), by repeat (first | (with_reducible first | exact HB.out | apply bAl | apply pbD | apply bD1 | refine bSt ?_ GE255.out | refine bSt ?_ GE256.out) | exact HB.out)⟩
              rw [if_pos c127] at H
              have c127b0 : (a0_0 == 5) = true := beq_iff_eq.mpr c127
              have c127b1 : (a0_0 != 5) = false := bne_eq_false_iff_eq.mpr c127
              clear c127
              replace H := oB H
              obtain ⟨t269, A1280, H⟩ := H
              replace H : (some t269) = some r := H
              have A128 := aK A1280
              clear A1280
              obtain rfl := oI H
              have hnb129 := NB255_256.out
              have hnc129 := NB256_255.out
              have hcz130_0 : wc.cell? ⟨gb255, 0, none⟩ = some (.int .i64 a0_0) := (kCe BK255.out 0).trans rfl
              have hcz130_1 : wc.cell? ⟨gb255, 1, none⟩ = some (.string a0_1) := (kCe BK255.out 1).trans rfl
              have hcz130_2 : wc.cell? ⟨gb255, 2, none⟩ = some (.string a0_2) := (kCe BK255.out 2).trans rfl
              have hcz130_3 : wc.cell? ⟨gb255, 3, none⟩ = some (.int .i64 a0_3) := (kCe BK255.out 3).trans rfl
              have hcz130_4 : wc.cell? ⟨gb255, 4, none⟩ = some (.int .i64 a0_4) := (kCe BK255.out 4).trans rfl
              have hcz131_0 : wc.cell? ⟨gb256, 0, none⟩ = some (.int .i64 a1_0) := (kCe BK256.out 0).trans rfl
              have hcz131_1 : wc.cell? ⟨gb256, 1, none⟩ = some (.string a1_1) := (kCe BK256.out 1).trans rfl
              have hcz131_2 : wc.cell? ⟨gb256, 2, none⟩ = some (.string a1_2) := (kCe BK256.out 2).trans rfl
              have hcz131_3 : wc.cell? ⟨gb256, 3, none⟩ = some (.int .i64 a1_3) := (kCe BK256.out 3).trans rfl
              have hcz131_4 : wc.cell? ⟨gb256, 4, none⟩ = some (.int .i64 a1_4) := (kCe BK256.out 4).trans rfl
              go_wp2_with (first | (go_at_call 50; (with_reducible refine (r9_Begins.calls a1_2 a0_2 t269 _ A128.out).mono ?_); rintro e w' ⟨rfl, ⟨nd, rfl⟩⟩))
              go_ret
              exact ⟨by first | rfl | (simp [eWn, eWs] <;> rfl) | (simp [*, eWn, eWs] <;> rfl), by repeat (first | (with_reducible first | exact HB.out | apply bAl | apply pbD | apply bD1 | refine bSt ?_ GE255.out | refine bSt ?_ GE256.out) | exact HB.out)⟩
             rw [if_pos c108] at H
             have c108b0 : (a1_0 == 5) = true := beq_iff_eq.mpr c108
             have c108b1 : (a1_0 != 5) = false := bne_eq_false_iff_eq.mpr c108
             clear c108
             replace H := oB H
             obtain ⟨t267, A1090, H⟩ := H
             try dsimp only at H
             have A109 := aK A1090
             clear A1090
             by_cases c110 : t267 = true
             rotate_left
             ·
              replace c110 := Bool.eq_false_iff.mpr c110
              subst c110
              have H1 : (if a1_0 = 8 then (if a0_0 = 5 then ((r9_Begins.f a1_2 a0_2).bind fun t268 => (some t268)) else (some false)) else (some false)) = some r := by rw [if_neg (show ¬ (false = true) by decide)] at H; exact H
              clear H
              have H := H1
              clear H1
              by_cases c114 : a1_0 = 8
              rotate_left
              ·
               rw [if_neg c114] at H
               have c114b0 : (a1_0 == 8) = false := beq_eq_false_iff_ne.mpr c114
               have c114b1 : (a1_0 != 8) = true := bne_iff_ne.mpr c114
               obtain rfl := oI H
               have hnb123 := NB255_256.out
               have hnc123 := NB256_255.out
               have hcz124_0 : wc.cell? ⟨gb255, 0, none⟩ = some (.int .i64 a0_0) := (kCe BK255.out 0).trans rfl
               have hcz124_1 : wc.cell? ⟨gb255, 1, none⟩ = some (.string a0_1) := (kCe BK255.out 1).trans rfl
               have hcz124_2 : wc.cell? ⟨gb255, 2, none⟩ = some (.string a0_2) := (kCe BK255.out 2).trans rfl
               have hcz124_3 : wc.cell? ⟨gb255, 3, none⟩ = some (.int .i64 a0_3) := (kCe BK255.out 3).trans rfl
               have hcz124_4 : wc.cell? ⟨gb255, 4, none⟩ = some (.int .i64 a0_4) := (kCe BK255.out 4).trans rfl
               have hcz125_0 : wc.cell? ⟨gb256, 0, none⟩ = some (.int .i64 a1_0) := (kCe BK256.out 0).trans rfl
               have hcz125_1 : wc.cell? ⟨gb256, 1, none⟩ = some (.string a1_1) := (kCe BK256.out 1).trans rfl
               have hcz125_2 : wc.cell? ⟨gb256, 2, none⟩ = some (.string a1_2) := (kCe BK256.out 2).trans rfl
               have hcz125_3 : wc.cell? ⟨gb256, 3, none⟩ = some (.int .i64 a1_3) := (kCe BK256.out 3).trans rfl
               have hcz125_4 : wc.cell? ⟨gb256, 4, none⟩ = some (.int .i64 a1_4) := (kCe BK256.out 4).trans rfl
               go_wp2_with (first | (go_at_call 50; (with_reducible refine (r9_Begins.calls a0_2 a1_2 false _ A109.out).mono ?_); rintro e w' ⟨rfl, ⟨nd, rfl⟩⟩))
               go_ret
               exact ⟨by first | rfl | (simp [eWn, eWs] <;> rfl) | (simp [*, eWn, eWs] <;> rfl), by repeat (first | (with_reducible first | exact HB.out | apply bAl | apply pbD | apply bD1 | refine bSt ?_ GE255.out | refine bSt ?_ GE256.out) | exact HB.out)⟩
              rw [if_pos c114] at H
              have c114b0 : (a1_0 == 8) = true := beq_iff_eq.mpr c114
              have c114b1 : (a1_0 != 8) = false := bne_eq_false_iff_eq.mpr c114
              clear c114
              by_cases c115 : a0_0 = 5
              rotate_left
              ·
               rw [if_neg c115] at H
               have c115b0 : (a0_0 == 5) = false := beq_eq_false_iff_ne.mpr c115
               have c115b1 : (a0_0 != 5) = true := bne_iff_ne.mpr c115
               obtain rfl := oI H
               have hnb120 := NB255_256.out
               have hnc120 := NB256_255.out
               have hcz121_0 : wc.cell? ⟨gb255, 0, none⟩ = some (.int .i64 a0_0) := (kCe BK255.out 0).trans rfl
               have hcz121_1 : wc.cell? ⟨gb255, 1, none⟩ = some (.string a0_1) := (kCe BK255.out 1).trans rfl
               have hcz121_2 : wc.cell? ⟨gb255, 2, none⟩ = some (.string a0_2) := (kCe BK255.out 2).trans rfl
               have hcz121_3 : wc.cell? ⟨gb255, 3, none⟩ = some (.int .i64 a0_3) := (kCe BK255.out 3).trans rfl
               have hcz121_4 : wc.cell? ⟨gb255, 4, none⟩ = some (.int .i64 a0_4) := (kCe BK255.out 4).trans rfl
               have hcz122_0 : wc.cell? ⟨gb256, 0, none⟩ = some (.int .i64 a1_0) := (kCe BK256.out 0).trans rfl
               have hcz122_1 : wc.cell? ⟨gb256, 1, none⟩ = some (.string a1_1) := (kCe BK256.out 1).trans rfl
               have hcz122_2 : wc.cell? ⟨gb256, 2, none⟩ = some (.string a1_2) := (kCe BK256.out 2).trans rfl
               have hcz122_3 : wc.cell? ⟨gb256, 3, none⟩ = some (.int .i64 a1_3) := (kCe BK256.out 3).trans rfl
               have hcz122_4 : wc.cell? ⟨gb256, 4, none⟩ = some (.int .i64 a1_4) := (kCe BK256.out 4).trans rfl
               go_wp2_with (first | (go_at_call 50; (with_reducible refine (r9_Begins.calls a0_2 a1_2 false _ A109.out).mono ?_); rintro e w' ⟨rfl, ⟨nd, rfl⟩⟩))
               go_ret
               exact ⟨by first | rfl | (simp [eWn, eWs] <;> rfl) | (simp [*, eWn, eWs] <;> rfl), by repeat (first | (with_reducible first | exact HB.out | apply bAl | apply pbD | apply bD1 | refine bSt ?_ GE255.out | refine bSt ?_ GE256.out) | exact HB.out)⟩
              rw [if_pos c115] at H
              have c115b0 : (a0_0 == 5) = true := beq_iff_eq.mpr c115
              have c115b1 : (a0_0 != 5) = false := bne_eq_false_iff_eq.mpr c115
              clear c115
              replace H := oB H
              obtain ⟨t268, A1160, H⟩ := H
              replace H : (some t268) = some r := H
              have A116 := aK A1160
              clear A1160
              obtain rfl := oI H
              have hnb117 := NB255_256.out
              have hnc117 := NB256_255.out
              have hcz118_0 : wc.cell? ⟨gb255, 0, none⟩ = some (.int .i64 a0_0) := (kCe BK255.out 0).trans rfl
              have hcz118_1 : wc.cell? ⟨gb255, 1, none⟩ = some (.string a0_1) := (kCe BK255.out 1).trans rfl
              have hcz118_2 : wc.cell? ⟨gb255, 2, none⟩ = some (.string a0_2) := (kCe BK255.out 2).trans rfl
              have hcz118_3 : wc.cell? ⟨gb255, 3, none⟩ = some (.int .i64 a0_3) := (kCe BK255.out 3).trans rfl
              have hcz118_4 : wc.cell? ⟨gb255, 4, none⟩ = some (.int .i64 a0_4) := (kCe BK255.out 4).trans rfl
              have hcz119_0 : wc.cell? ⟨gb256, 0, none⟩ = some (.int .i64 a1_0) := (kCe BK256.out 0).trans rfl
              have hcz119_1 : wc.cell? ⟨gb256, 1, none⟩ = some (.string a1_1) := (kCe BK256.out 1).trans rfl
              have hcz119_2 : wc.cell? ⟨gb256, 2, none⟩ = some (.string a1_2) := (kCe BK256.out 2).trans rfl
              have hcz119_3 : wc.cell? ⟨gb256, 3, none⟩ = some (.int .i64 a1_3) := (kCe BK256.out 3).trans rfl
              have hcz119_4 : wc.cell? ⟨gb256, 4, none⟩ = some (.int .i64 a1_4) := (kCe BK256.out 4).trans rfl
              go_wp2_with (first | (go_at_call 50; (with_reducible refine (r9_Begins.calls a0_2 a1_2 false _ A109.out).mono ?_); rintro e w' ⟨rfl, ⟨nd, rfl⟩⟩) | (go_at_call 50; (with_reducible refine (r9_Begins.calls a1_2 a0_2 t268 _ A116.out).mono ?_); rintro e w' ⟨rfl, ⟨nd, rfl⟩⟩))
              go_ret
              exact ⟨by first | rfl | (simp [eWn, eWs] <;> rfl) | (simp [*, eWn, eWs] <;> rfl), by repeat (first | (with_reducible first | exact HB.out | apply bAl | apply pbD | apply bD1 | refine bSt ?_ GE255.out | refine bSt ?_ GE256.out) | exact HB.out)⟩
             subst c110
             have H1 : (some true) = some r := by rw [if_pos rfl] at H; exact H
             clear H
             have H := H1
             clear H1
             obtain rfl := oI H
             have hnb111 := NB255_256.out
             have hnc111 := NB256_255.out
             have hcz112_0 : wc.cell? ⟨gb255, 0, none⟩ = some (.int .i64 a0_0) := (kCe BK255.out 0).trans rfl
             have hcz112_1 : wc.cell? ⟨gb255, 1, none⟩ = some (.string a0_1) := (kCe BK255.out 1).trans rfl
             have hcz112_2 : wc.cell? ⟨gb255, 2, none⟩ = some (.string a0_2) := (kCe BK255.out 2).trans rfl
             have hcz112_3 : wc.cell? ⟨gb255, 3, none⟩ = some (.int .i64 a0_3) := (kCe BK255.out 3).trans rfl
             have hcz112_4 : wc.cell? ⟨gb255, 4, none⟩ = some (.int .i64 a0_4) := (kCe BK255.out 4).trans rfl
             have hcz113_0 : wc.cell? ⟨gb256, 0, none⟩ = some (.int .i64 a1_0) := (kCe BK256.out 0).trans rfl
             have hcz113_1 : wc.cell? ⟨gb256, 1, none⟩ = some (.string a1_1) := (kCe BK256.out 1).trans rfl
             have hcz113_2 : wc.cell? ⟨gb256, 2, none⟩ = some (.string a1_2) := (kCe BK256.out 2).trans rfl
             have hcz113_3 : wc.cell? ⟨gb256, 3, none⟩ = some (.int .i64 a1_3) := (kCe BK256.out 3).trans rfl
             have hcz113_4 : wc.cell? ⟨gb256, 4, none⟩ = some (.int .i64 a1_4) := (kCe BK256.out 4).trans rfl
             go_wp2_with (first | (go_at_call 50; (with_reducible refine (r9_Begins.calls a0_2 a1_2 true _ A109.out).mono ?_); rintro e w' ⟨rfl, ⟨nd, rfl⟩⟩))
             go_ret
             exact ⟨by first | rfl | (simp [eWn, eWs] <;> rfl) | (simp [*, eWn, eWs] <;> rfl), by repeat (first | (with_reducible first | exact HB.out | apply bAl | apply pbD | apply bD1 | refine bSt ?_ GE255.out | refine bSt ?_ GE256.out) | exact HB.out)⟩
            subst c106
            have H1 : (some true) = some r := by rw [if_pos rfl] at H; exact H
            clear H
            have H := H1
            clear H1
            obtain rfl := oI H
            go_wp2
            go_ret
            exact ⟨by first | rfl | (simp [eWn, eWs] <;> rfl) | (simp [*, eWn, eWs] <;> rfl), by repeat (first | (with_reducible first | exact HB.out | apply bAl | apply pbD | apply bD1 | refine bSt ?_ GE255.out | refine bSt ?_ GE256.out) | exact HB.out)⟩
         rw [if_pos c26] at H
         have c26b0 : decide (x5_3 ≤ 3) = true := decide_eq_true c26
         clear c26
         replace H := oB H
         obtain ⟨t257, A270, H⟩ := H
         try dsimp only at H
         have A27 := aK A270
         clear A270
         by_cases c28 : t257 = true
         rotate_left
         ·
          replace c28 := Bool.eq_false_iff.mpr c28
          subst c28
          have H1 : (r9_Clash.l0 k3 (wrap64 (x5_3 + 1)) a0_0 a0_1 a0_2 a0_3 a0_4 a1_0 a1_1 a1_2 a1_3 a1_4) = some r := by rw [if_neg (show ¬ (false = true) by decide)] at H; exact H
          clear H
          have H := H1
          clear H1
          have H' := aK H
          clear H
          have hnb61 := NB255_256.out
          have hnc61 := NB256_255.out
          have hcz62_0 : wr.cell? ⟨gb255, 0, none⟩ = some (.int .i64 a0_0) := (kCe BK255.out 0).trans rfl
          have hcz62_1 : wr.cell? ⟨gb255, 1, none⟩ = some (.string a0_1) := (kCe BK255.out 1).trans rfl
          have hcz62_2 : wr.cell? ⟨gb255, 2, none⟩ = some (.string a0_2) := (kCe BK255.out 2).trans rfl
          have hcz62_3 : wr.cell? ⟨gb255, 3, none⟩ = some (.int .i64 a0_3) := (kCe BK255.out 3).trans rfl
          have hcz62_4 : wr.cell? ⟨gb255, 4, none⟩ = some (.int .i64 a0_4) := (kCe BK255.out 4).trans rfl
          go_wp2_with (first | ((with_reducible refine gate_callee (f := 49) rfl ?_); refine goesL_ (some 39) rfl rfl Try.func49 (by kernel_rfl) rfl #[.agg #[.int .i64 a0_0, .string a0_1, .string a0_2, .int .i64 a0_3, .int .i64 a0_4], .int .i64 x5_3] rfl (by (try simp only [qM0, qM1, qM2]); first | done | rfl | (simp only [qD0, qD1]; rfl)) ?_; (with_reducible refine (r9_In.calls k3 a0_0 a0_1 a0_2 a0_3 a0_4 x5_3 false _ A27.out).mono ?_); rintro e w63 ⟨rfl, hb⟩; refine ⟨_, rfl, ?_⟩; have n0_ := aK (kBe (g := gb255) (o := .cells #[.int .i64 a0_0, .string a0_1, .string a0_2, .int .i64 a0_3, .int .i64 a0_4] 33 (0, 0)) (by (with_reducible repeat (first | refine kDN ?_ _ | refine kDr ?_ | refine kAl ?_ _)); exact BK255.out) hb); have n1_ := aK (kBe (g := gb256) (o := .cells #[.int .i64 a1_0, .string a1_1, .string a1_2, .int .i64 a1_3, .int .i64 a1_4] 33 (0, 0)) (by (with_reducible repeat (first | refine kDN ?_ _ | refine kDr ?_ | refine kAl ?_ _)); exact BK256.out) hb); have n2_ := aK (bSp (by repeat (first | (with_reducible first | exact HB.out | apply bAl | apply pbD | apply bD1 | refine bSt ?_ GE255.out | refine bSt ?_ GE256.out) | exact HB.out)) hb); clear BK255; clear BK256; clear HB; have BK255 := n0_; have BK256 := n1_; have HB := n2_; clear n0_ n1_ n2_; (try clear hb); (try clear hb2); (try clear hk); (try clear hi)))
          go_roundg k3
          case measure => have := HJ2.out; have := HJ13.out; have := HK3.out; omega
          case rel => exact ⟨(wrap64 (x5_3 + 1)), (by first | rfl | (simp; done) | (simp [*]; done)), H', ⟨by have := HJ2.out; have := HJ13.out; have := HK3.out; omega⟩, ⟨by (with_reducible repeat (first | refine kDN ?_ _ | refine kDr ?_ | refine kAl ?_ _)); exact BK255.out⟩, ⟨by (with_reducible repeat (first | refine kDN ?_ _ | refine kDr ?_ | refine kAl ?_ _)); exact BK256.out⟩, ⟨by repeat (first | (with_reducible first | exact HB.out | apply bAl | apply pbD | apply bD1 | refine bSt ?_ GE255.out | refine bSt ?_ GE256.out) | exact HB.out)⟩⟩
         subst c28
         have H1 : ((r9_In.f k3 a1_0 a1_1 a1_2 a1_3 a1_4 x5_3).bind fun t258 => (if t258 = true then ((r9_Begins.f a0_2 a1_2).bind fun t259 => (if t259 = true then (some true) else ((r9_Begins.f a1_2 a0_2).bind fun t260 => (if t260 = true then (some true) else (r9_Clash.l0 k3 (wrap64 (x5_3 + 1)) a0_0 a0_1 a0_2 a0_3 a0_4 a1_0 a1_1 a1_2 a1_3 a1_4))))) else (r9_Clash.l0 k3 (wrap64 (x5_3 + 1)) a0_0 a0_1 a0_2 a0_3 a0_4 a1_0 a1_1 a1_2 a1_3 a1_4))) = some r := by rw [if_pos rfl] at H; exact H
         clear H
         have H := H1
         clear H1
         replace H := oB H
         obtain ⟨t258, A290, H⟩ := H
         try dsimp only at H
         have A29 := aK A290
         clear A290
         by_cases c30 : t258 = true
         rotate_left
         ·
          replace c30 := Bool.eq_false_iff.mpr c30
          subst c30
          have H1 : (r9_Clash.l0 k3 (wrap64 (x5_3 + 1)) a0_0 a0_1 a0_2 a0_3 a0_4 a1_0 a1_1 a1_2 a1_3 a1_4) = some r := by rw [if_neg (show ¬ (false = true) by decide)] at H; exact H
          clear H
          have H := H1
          clear H1
          have H' := aK H
          clear H
          have hnb56 := NB255_256.out
          have hnc56 := NB256_255.out
          have hcz57_0 : wr.cell? ⟨gb255, 0, none⟩ = some (.int .i64 a0_0) := (kCe BK255.out 0).trans rfl
          have hcz57_1 : wr.cell? ⟨gb255, 1, none⟩ = some (.string a0_1) := (kCe BK255.out 1).trans rfl
          have hcz57_2 : wr.cell? ⟨gb255, 2, none⟩ = some (.string a0_2) := (kCe BK255.out 2).trans rfl
          have hcz57_3 : wr.cell? ⟨gb255, 3, none⟩ = some (.int .i64 a0_3) := (kCe BK255.out 3).trans rfl
          have hcz57_4 : wr.cell? ⟨gb255, 4, none⟩ = some (.int .i64 a0_4) := (kCe BK255.out 4).trans rfl
          go_wp2_with (first | ((with_reducible refine gate_callee (f := 49) rfl ?_); refine goesL_ (some 39) rfl rfl Try.func49 (by kernel_rfl) rfl #[.agg #[.int .i64 a0_0, .string a0_1, .string a0_2, .int .i64 a0_3, .int .i64 a0_4], .int .i64 x5_3] rfl (by (try simp only [qM0, qM1, qM2]); first | done | rfl | (simp only [qD0, qD1]; rfl)) ?_; (with_reducible refine (r9_In.calls k3 a0_0 a0_1 a0_2 a0_3 a0_4 x5_3 true _ A27.out).mono ?_); rintro e w58 ⟨rfl, hb⟩; refine ⟨_, rfl, ?_⟩; have n0_ := aK (kBe (g := gb255) (o := .cells #[.int .i64 a0_0, .string a0_1, .string a0_2, .int .i64 a0_3, .int .i64 a0_4] 33 (0, 0)) (by (with_reducible repeat (first | refine kDN ?_ _ | refine kDr ?_ | refine kAl ?_ _)); exact BK255.out) hb); have n1_ := aK (kBe (g := gb256) (o := .cells #[.int .i64 a1_0, .string a1_1, .string a1_2, .int .i64 a1_3, .int .i64 a1_4] 33 (0, 0)) (by (with_reducible repeat (first | refine kDN ?_ _ | refine kDr ?_ | refine kAl ?_ _)); exact BK256.out) hb); have n2_ := aK (bSp (by repeat (first | (with_reducible first | exact HB.out | apply bAl | apply pbD | apply bD1 | refine bSt ?_ GE255.out | refine bSt ?_ GE256.out) | exact HB.out)) hb); clear BK255; clear BK256; clear HB; have BK255 := n0_; have BK256 := n1_; have HB := n2_; clear n0_ n1_ n2_; (try clear hb); (try clear hb2); (try clear hk); (try clear hi); have hcz59_0 : w58.cell? ⟨gb256, 0, none⟩ = some (.int .i64 a1_0) := (kCe BK256.out 0).trans rfl; have hcz59_1 : w58.cell? ⟨gb256, 1, none⟩ = some (.string a1_1) := (kCe BK256.out 1).trans rfl; have hcz59_2 : w58.cell? ⟨gb256, 2, none⟩ = some (.string a1_2) := (kCe BK256.out 2).trans rfl; have hcz59_3 : w58.cell? ⟨gb256, 3, none⟩ = some (.int .i64 a1_3) := (kCe BK256.out 3).trans rfl; have hcz59_4 : w58.cell? ⟨gb256, 4, none⟩ = some (.int .i64 a1_4) := (kCe BK256.out 4).trans rfl) | (go_at_call 49; (with_reducible refine (r9_In.calls k3 a1_0 a1_1 a1_2 a1_3 a1_4 x5_3 false _ A29.out).mono ?_); rintro e w60 ⟨rfl, hb⟩; have n0_ := aK (kBe (g := gb255) (o := .cells #[.int .i64 a0_0, .string a0_1, .string a0_2, .int .i64 a0_3, .int .i64 a0_4] 33 (0, 0)) (by (with_reducible repeat (first | refine kDN ?_ _ | refine kDr ?_ | refine kAl ?_ _)); exact BK255.out) hb); have n1_ := aK (kBe (g := gb256) (o := .cells #[.int .i64 a1_0, .string a1_1, .string a1_2, .int .i64 a1_3, .int .i64 a1_4] 33 (0, 0)) (by (with_reducible repeat (first | refine kDN ?_ _ | refine kDr ?_ | refine kAl ?_ _)); exact BK256.out) hb); have n2_ := aK (bSp (by repeat (first | (with_reducible first | exact HB.out | apply bAl | apply pbD | apply bD1 | refine bSt ?_ GE255.out | refine bSt ?_ GE256.out) | exact HB.out)) hb); clear BK255; clear BK256; clear HB; have BK255 := n0_; have BK256 := n1_; have HB := n2_; clear n0_ n1_ n2_; (try clear hb); (try clear hb2); (try clear hk); (try clear hi)))
          go_roundg k3
          case measure => have := HJ2.out; have := HJ13.out; have := HK3.out; omega
          case rel => exact ⟨(wrap64 (x5_3 + 1)), (by first | rfl | (simp; done) | (simp [*]; done)), H', ⟨by have := HJ2.out; have := HJ13.out; have := HK3.out; omega⟩, ⟨by (with_reducible repeat (first | refine kDN ?_ _ | refine kDr ?_ | refine kAl ?_ _)); exact BK255.out⟩, ⟨by (with_reducible repeat (first | refine kDN ?_ _ | refine kDr ?_ | refine kAl ?_ _)); exact BK256.out⟩, ⟨by repeat (first | (with_reducible first | exact HB.out | apply bAl | apply pbD | apply bD1 | refine bSt ?_ GE255.out | refine bSt ?_ GE256.out) | exact HB.out)⟩⟩
         subst c30
         have H1 : ((r9_Begins.f a0_2 a1_2).bind fun t259 => (if t259 = true then (some true) else ((r9_Begins.f a1_2 a0_2).bind fun t260 => (if t260 = true then (some true) else (r9_Clash.l0 k3 (wrap64 (x5_3 + 1)) a0_0 a0_1 a0_2 a0_3 a0_4 a1_0 a1_1 a1_2 a1_3 a1_4))))) = some r := by rw [if_pos rfl] at H; exact H
         clear H
         have H := H1
         clear H1
         replace H := oB H
         obtain ⟨t259, A310, H⟩ := H
         try dsimp only at H
         have A31 := aK A310
         clear A310
         by_cases c32 : t259 = true
         rotate_left
         ·
          replace c32 := Bool.eq_false_iff.mpr c32
          subst c32
          have H1 : ((r9_Begins.f a1_2 a0_2).bind fun t260 => (if t260 = true then (some true) else (r9_Clash.l0 k3 (wrap64 (x5_3 + 1)) a0_0 a0_1 a0_2 a0_3 a0_4 a1_0 a1_1 a1_2 a1_3 a1_4))) = some r := by rw [if_neg (show ¬ (false = true) by decide)] at H; exact H
          clear H
          have H := H1
          clear H1
          replace H := oB H
          obtain ⟨t260, A400, H⟩ := H
          try dsimp only at H
          have A40 := aK A400
          clear A400
          by_cases c41 : t260 = true
          rotate_left
          ·
           replace c41 := Bool.eq_false_iff.mpr c41
           subst c41
           have H1 : (r9_Clash.l0 k3 (wrap64 (x5_3 + 1)) a0_0 a0_1 a0_2 a0_3 a0_4 a1_0 a1_1 a1_2 a1_3 a1_4) = some r := by rw [if_neg (show ¬ (false = true) by decide)] at H; exact H
           clear H
           have H := H1
           clear H1
           have H' := aK H
           clear H
           have hnb49 := NB255_256.out
           have hnc49 := NB256_255.out
           have hcz50_0 : wr.cell? ⟨gb255, 0, none⟩ = some (.int .i64 a0_0) := (kCe BK255.out 0).trans rfl
           have hcz50_1 : wr.cell? ⟨gb255, 1, none⟩ = some (.string a0_1) := (kCe BK255.out 1).trans rfl
           have hcz50_2 : wr.cell? ⟨gb255, 2, none⟩ = some (.string a0_2) := (kCe BK255.out 2).trans rfl
           have hcz50_3 : wr.cell? ⟨gb255, 3, none⟩ = some (.int .i64 a0_3) := (kCe BK255.out 3).trans rfl
           have hcz50_4 : wr.cell? ⟨gb255, 4, none⟩ = some (.int .i64 a0_4) := (kCe BK255.out 4).trans rfl
           go_wp2_with (first | ((with_reducible refine gate_callee (f := 49) rfl ?_); refine goesL_ (some 39) rfl rfl Try.func49 (by kernel_rfl) rfl #[.agg #[.int .i64 a0_0, .string a0_1, .string a0_2, .int .i64 a0_3, .int .i64 a0_4], .int .i64 x5_3] rfl (by (try simp only [qM0, qM1, qM2]); first | done | rfl | (simp only [qD0, qD1]; rfl)) ?_; (with_reducible refine (r9_In.calls k3 a0_0 a0_1 a0_2 a0_3 a0_4 x5_3 true _ A27.out).mono ?_); rintro e w51 ⟨rfl, hb⟩; refine ⟨_, rfl, ?_⟩; have n0_ := aK (kBe (g := gb255) (o := .cells #[.int .i64 a0_0, .string a0_1, .string a0_2, .int .i64 a0_3, .int .i64 a0_4] 33 (0, 0)) (by (with_reducible repeat (first | refine kDN ?_ _ | refine kDr ?_ | refine kAl ?_ _)); exact BK255.out) hb); have n1_ := aK (kBe (g := gb256) (o := .cells #[.int .i64 a1_0, .string a1_1, .string a1_2, .int .i64 a1_3, .int .i64 a1_4] 33 (0, 0)) (by (with_reducible repeat (first | refine kDN ?_ _ | refine kDr ?_ | refine kAl ?_ _)); exact BK256.out) hb); have n2_ := aK (bSp (by repeat (first | (with_reducible first | exact HB.out | apply bAl | apply pbD | apply bD1 | refine bSt ?_ GE255.out | refine bSt ?_ GE256.out) | exact HB.out)) hb); clear BK255; clear BK256; clear HB; have BK255 := n0_; have BK256 := n1_; have HB := n2_; clear n0_ n1_ n2_; (try clear hb); (try clear hb2); (try clear hk); (try clear hi); have hcz52_0 : w51.cell? ⟨gb256, 0, none⟩ = some (.int .i64 a1_0) := (kCe BK256.out 0).trans rfl; have hcz52_1 : w51.cell? ⟨gb256, 1, none⟩ = some (.string a1_1) := (kCe BK256.out 1).trans rfl; have hcz52_2 : w51.cell? ⟨gb256, 2, none⟩ = some (.string a1_2) := (kCe BK256.out 2).trans rfl; have hcz52_3 : w51.cell? ⟨gb256, 3, none⟩ = some (.int .i64 a1_3) := (kCe BK256.out 3).trans rfl; have hcz52_4 : w51.cell? ⟨gb256, 4, none⟩ = some (.int .i64 a1_4) := (kCe BK256.out 4).trans rfl) | (go_at_call 49; (with_reducible refine (r9_In.calls k3 a1_0 a1_1 a1_2 a1_3 a1_4 x5_3 true _ A29.out).mono ?_); rintro e w53 ⟨rfl, hb⟩; have n0_ := aK (kBe (g := gb255) (o := .cells #[.int .i64 a0_0, .string a0_1, .string a0_2, .int .i64 a0_3, .int .i64 a0_4] 33 (0, 0)) (by (with_reducible repeat (first | refine kDN ?_ _ | refine kDr ?_ | refine kAl ?_ _)); exact BK255.out) hb); have n1_ := aK (kBe (g := gb256) (o := .cells #[.int .i64 a1_0, .string a1_1, .string a1_2, .int .i64 a1_3, .int .i64 a1_4] 33 (0, 0)) (by (with_reducible repeat (first | refine kDN ?_ _ | refine kDr ?_ | refine kAl ?_ _)); exact BK256.out) hb); have n2_ := aK (bSp (by repeat (first | (with_reducible first | exact HB.out | apply bAl | apply pbD | apply bD1 | refine bSt ?_ GE255.out | refine bSt ?_ GE256.out) | exact HB.out)) hb); clear BK255; clear BK256; clear HB; have BK255 := n0_; have BK256 := n1_; have HB := n2_; clear n0_ n1_ n2_; (try clear hb); (try clear hb2); (try clear hk); (try clear hi); have hcz54_0 : w53.cell? ⟨gb255, 0, none⟩ = some (.int .i64 a0_0) := (kCe BK255.out 0).trans rfl; have hcz54_1 : w53.cell? ⟨gb255, 1, none⟩ = some (.string a0_1) := (kCe BK255.out 1).trans rfl; have hcz54_2 : w53.cell? ⟨gb255, 2, none⟩ = some (.string a0_2) := (kCe BK255.out 2).trans rfl; have hcz54_3 : w53.cell? ⟨gb255, 3, none⟩ = some (.int .i64 a0_3) := (kCe BK255.out 3).trans rfl; have hcz54_4 : w53.cell? ⟨gb255, 4, none⟩ = some (.int .i64 a0_4) := (kCe BK255.out 4).trans rfl; have hcz55_0 : w53.cell? ⟨gb256, 0, none⟩ = some (.int .i64 a1_0) := (kCe BK256.out 0).trans rfl; have hcz55_1 : w53.cell? ⟨gb256, 1, none⟩ = some (.string a1_1) := (kCe BK256.out 1).trans rfl; have hcz55_2 : w53.cell? ⟨gb256, 2, none⟩ = some (.string a1_2) := (kCe BK256.out 2).trans rfl; have hcz55_3 : w53.cell? ⟨gb256, 3, none⟩ = some (.int .i64 a1_3) := (kCe BK256.out 3).trans rfl; have hcz55_4 : w53.cell? ⟨gb256, 4, none⟩ = some (.int .i64 a1_4) := (kCe BK256.out 4).trans rfl) | (go_at_call 50; (with_reducible refine (r9_Begins.calls a0_2 a1_2 false _ A31.out).mono ?_); rintro e w' ⟨rfl, ⟨nd, rfl⟩⟩) | (go_at_call 50; (with_reducible refine (r9_Begins.calls a1_2 a0_2 false _ A40.out).mono ?_); rintro e w' ⟨rfl, ⟨nd, rfl⟩⟩))
           go_roundg k3
           case measure => have := HJ2.out; have := HJ13.out; have := HK3.out; omega
           case rel => exact ⟨(wrap64 (x5_3 + 1)), (by first | rfl | (simp; done) | (simp [*]; done)), H', ⟨by have := HJ2.out; have := HJ13.out; have := HK3.out; omega⟩, ⟨by (with_reducible repeat (first | refine kDN ?_ _ | refine kDr ?_ | refine kAl ?_ _)); exact BK255.out⟩, ⟨by (with_reducible repeat (first | refine kDN ?_ _ | refine kDr ?_ | refine kAl ?_ _)); exact BK256.out⟩, ⟨by repeat (first | (with_reducible first | exact HB.out | apply bAl | apply pbD | apply bD1 | refine bSt ?_ GE255.out | refine bSt ?_ GE256.out) | exact HB.out)⟩⟩
          subst c41
          have H1 : (some true) = some r := by rw [if_pos rfl] at H; exact H
          clear H
          have H := H1
          clear H1
          obtain rfl := oI H
          have hnb42 := NB255_256.out
          have hnc42 := NB256_255.out
          have hcz43_0 : wr.cell? ⟨gb255, 0, none⟩ = some (.int .i64 a0_0) := (kCe BK255.out 0).trans rfl
          have hcz43_1 : wr.cell? ⟨gb255, 1, none⟩ = some (.string a0_1) := (kCe BK255.out 1).trans rfl
          have hcz43_2 : wr.cell? ⟨gb255, 2, none⟩ = some (.string a0_2) := (kCe BK255.out 2).trans rfl
          have hcz43_3 : wr.cell? ⟨gb255, 3, none⟩ = some (.int .i64 a0_3) := (kCe BK255.out 3).trans rfl
          have hcz43_4 : wr.cell? ⟨gb255, 4, none⟩ = some (.int .i64 a0_4) := (kCe BK255.out 4).trans rfl
          go_wp2_with (first | ((with_reducible refine gate_callee (f := 49) rfl ?_); refine goesL_ (some 39) rfl rfl Try.func49 (by kernel_rfl) rfl #[.agg #[.int .i64 a0_0, .string a0_1, .string a0_2, .int .i64 a0_3, .int .i64 a0_4], .int .i64 x5_3] rfl (by (try simp only [qM0, qM1, qM2]); first | done | rfl | (simp only [qD0, qD1]; rfl)) ?_; (with_reducible refine (r9_In.calls k3 a0_0 a0_1 a0_2 a0_3 a0_4 x5_3 true _ A27.out).mono ?_); rintro e w44 ⟨rfl, hb⟩; refine ⟨_, rfl, ?_⟩; have n0_ := aK (kBe (g := gb255) (o := .cells #[.int .i64 a0_0, .string a0_1, .string a0_2, .int .i64 a0_3, .int .i64 a0_4] 33 (0, 0)) (by (with_reducible repeat (first | refine kDN ?_ _ | refine kDr ?_ | refine kAl ?_ _)); exact BK255.out) hb); have n1_ := aK (kBe (g := gb256) (o := .cells #[.int .i64 a1_0, .string a1_1, .string a1_2, .int .i64 a1_3, .int .i64 a1_4] 33 (0, 0)) (by (with_reducible repeat (first | refine kDN ?_ _ | refine kDr ?_ | refine kAl ?_ _)); exact BK256.out) hb); have n2_ := aK (bSp (by repeat (first | (with_reducible first | exact HB.out | apply bAl | apply pbD | apply bD1 | refine bSt ?_ GE255.out | refine bSt ?_ GE256.out) | exact HB.out)) hb); clear BK255; clear BK256; clear HB; have BK255 := n0_; have BK256 := n1_; have HB := n2_; clear n0_ n1_ n2_; (try clear hb); (try clear hb2); (try clear hk); (try clear hi); have hcz45_0 : w44.cell? ⟨gb256, 0, none⟩ = some (.int .i64 a1_0) := (kCe BK256.out 0).trans rfl; have hcz45_1 : w44.cell? ⟨gb256, 1, none⟩ = some (.string a1_1) := (kCe BK256.out 1).trans rfl; have hcz45_2 : w44.cell? ⟨gb256, 2, none⟩ = some (.string a1_2) := (kCe BK256.out 2).trans rfl; have hcz45_3 : w44.cell? ⟨gb256, 3, none⟩ = some (.int .i64 a1_3) := (kCe BK256.out 3).trans rfl; have hcz45_4 : w44.cell? ⟨gb256, 4, none⟩ = some (.int .i64 a1_4) := (kCe BK256.out 4).trans rfl) | (go_at_call 49; (with_reducible refine (r9_In.calls k3 a1_0 a1_1 a1_2 a1_3 a1_4 x5_3 true _ A29.out).mono ?_); rintro e w46 ⟨rfl, hb⟩; have n0_ := aK (kBe (g := gb255) (o := .cells #[.int .i64 a0_0, .string a0_1, .string a0_2, .int .i64 a0_3, .int .i64 a0_4] 33 (0, 0)) (by (with_reducible repeat (first | refine kDN ?_ _ | refine kDr ?_ | refine kAl ?_ _)); exact BK255.out) hb); have n1_ := aK (kBe (g := gb256) (o := .cells #[.int .i64 a1_0, .string a1_1, .string a1_2, .int .i64 a1_3, .int .i64 a1_4] 33 (0, 0)) (by (with_reducible repeat (first | refine kDN ?_ _ | refine kDr ?_ | refine kAl ?_ _)); exact BK256.out) hb); have n2_ := aK (bSp (by repeat (first | (with_reducible first | exact HB.out | apply bAl | apply pbD | apply bD1 | refine bSt ?_ GE255.out | refine bSt ?_ GE256.out) | exact HB.out)) hb); clear BK255; clear BK256; clear HB; have BK255 := n0_; have BK256 := n1_; have HB := n2_; clear n0_ n1_ n2_; (try clear hb); (try clear hb2); (try clear hk); (try clear hi); have hcz47_0 : w46.cell? ⟨gb255, 0, none⟩ = some (.int .i64 a0_0) := (kCe BK255.out 0).trans rfl; have hcz47_1 : w46.cell? ⟨gb255, 1, none⟩ = some (.string a0_1) := (kCe BK255.out 1).trans rfl; have hcz47_2 : w46.cell? ⟨gb255, 2, none⟩ = some (.string a0_2) := (kCe BK255.out 2).trans rfl; have hcz47_3 : w46.cell? ⟨gb255, 3, none⟩ = some (.int .i64 a0_3) := (kCe BK255.out 3).trans rfl; have hcz47_4 : w46.cell? ⟨gb255, 4, none⟩ = some (.int .i64 a0_4) := (kCe BK255.out 4).trans rfl; have hcz48_0 : w46.cell? ⟨gb256, 0, none⟩ = some (.int .i64 a1_0) := (kCe BK256.out 0).trans rfl; have hcz48_1 : w46.cell? ⟨gb256, 1, none⟩ = some (.string a1_1) := (kCe BK256.out 1).trans rfl; have hcz48_2 : w46.cell? ⟨gb256, 2, none⟩ = some (.string a1_2) := (kCe BK256.out 2).trans rfl; have hcz48_3 : w46.cell? ⟨gb256, 3, none⟩ = some (.int .i64 a1_3) := (kCe BK256.out 3).trans rfl; have hcz48_4 : w46.cell? ⟨gb256, 4, none⟩ = some (.int .i64 a1_4) := (kCe BK256.out 4).trans rfl) | (go_at_call 50; (with_reducible refine (r9_Begins.calls a0_2 a1_2 false _ A31.out).mono ?_); rintro e w' ⟨rfl, ⟨nd, rfl⟩⟩) | (go_at_call 50; (with_reducible refine (r9_Begins.calls a1_2 a0_2 true _ A40.out).mono ?_); rintro e w' ⟨rfl, ⟨nd, rfl⟩⟩))
          go_ret
          exact ⟨by first | rfl | (simp [eWn, eWs] <;> rfl) | (simp [*, eWn, eWs] <;> rfl), by repeat (first | (with_reducible first | exact HB.out | apply bAl | apply pbD | apply bD1 | refine bSt ?_ GE255.out | refine bSt ?_ GE256.out) | exact HB.out)⟩
         subst c32
         have H1 : (some true) = some r := by rw [if_pos rfl] at H; exact H
         clear H
         have H := H1
         clear H1
         obtain rfl := oI H
         have hnb33 := NB255_256.out
         have hnc33 := NB256_255.out
         have hcz34_0 : wr.cell? ⟨gb255, 0, none⟩ = some (.int .i64 a0_0) := (kCe BK255.out 0).trans rfl
         have hcz34_1 : wr.cell? ⟨gb255, 1, none⟩ = some (.string a0_1) := (kCe BK255.out 1).trans rfl
         have hcz34_2 : wr.cell? ⟨gb255, 2, none⟩ = some (.string a0_2) := (kCe BK255.out 2).trans rfl
         have hcz34_3 : wr.cell? ⟨gb255, 3, none⟩ = some (.int .i64 a0_3) := (kCe BK255.out 3).trans rfl
         have hcz34_4 : wr.cell? ⟨gb255, 4, none⟩ = some (.int .i64 a0_4) := (kCe BK255.out 4).trans rfl
         go_wp2_with (first | ((with_reducible refine gate_callee (f := 49) rfl ?_); refine goesL_ (some 39) rfl rfl Try.func49 (by kernel_rfl) rfl #[.agg #[.int .i64 a0_0, .string a0_1, .string a0_2, .int .i64 a0_3, .int .i64 a0_4], .int .i64 x5_3] rfl (by (try simp only [qM0, qM1, qM2]); first | done | rfl | (simp only [qD0, qD1]; rfl)) ?_; (with_reducible refine (r9_In.calls k3 a0_0 a0_1 a0_2 a0_3 a0_4 x5_3 true _ A27.out).mono ?_); rintro e w35 ⟨rfl, hb⟩; refine ⟨_, rfl, ?_⟩; have n0_ := aK (kBe (g := gb255) (o := .cells #[.int .i64 a0_0, .string a0_1, .string a0_2, .int .i64 a0_3, .int .i64 a0_4] 33 (0, 0)) (by (with_reducible repeat (first | refine kDN ?_ _ | refine kDr ?_ | refine kAl ?_ _)); exact BK255.out) hb); have n1_ := aK (kBe (g := gb256) (o := .cells #[.int .i64 a1_0, .string a1_1, .string a1_2, .int .i64 a1_3, .int .i64 a1_4] 33 (0, 0)) (by (with_reducible repeat (first | refine kDN ?_ _ | refine kDr ?_ | refine kAl ?_ _)); exact BK256.out) hb); have n2_ := aK (bSp (by repeat (first | (with_reducible first | exact HB.out | apply bAl | apply pbD | apply bD1 | refine bSt ?_ GE255.out | refine bSt ?_ GE256.out) | exact HB.out)) hb); clear BK255; clear BK256; clear HB; have BK255 := n0_; have BK256 := n1_; have HB := n2_; clear n0_ n1_ n2_; (try clear hb); (try clear hb2); (try clear hk); (try clear hi); have hcz36_0 : w35.cell? ⟨gb256, 0, none⟩ = some (.int .i64 a1_0) := (kCe BK256.out 0).trans rfl; have hcz36_1 : w35.cell? ⟨gb256, 1, none⟩ = some (.string a1_1) := (kCe BK256.out 1).trans rfl; have hcz36_2 : w35.cell? ⟨gb256, 2, none⟩ = some (.string a1_2) := (kCe BK256.out 2).trans rfl; have hcz36_3 : w35.cell? ⟨gb256, 3, none⟩ = some (.int .i64 a1_3) := (kCe BK256.out 3).trans rfl; have hcz36_4 : w35.cell? ⟨gb256, 4, none⟩ = some (.int .i64 a1_4) := (kCe BK256.out 4).trans rfl) | (go_at_call 49; (with_reducible refine (r9_In.calls k3 a1_0 a1_1 a1_2 a1_3 a1_4 x5_3 true _ A29.out).mono ?_); rintro e w37 ⟨rfl, hb⟩; have n0_ := aK (kBe (g := gb255) (o := .cells #[.int .i64 a0_0, .string a0_1, .string a0_2, .int .i64 a0_3, .int .i64 a0_4] 33 (0, 0)) (by (with_reducible repeat (first | refine kDN ?_ _ | refine kDr ?_ | refine kAl ?_ _)); exact BK255.out) hb); have n1_ := aK (kBe (g := gb256) (o := .cells #[.int .i64 a1_0, .string a1_1, .string a1_2, .int .i64 a1_3, .int .i64 a1_4] 33 (0, 0)) (by (with_reducible repeat (first | refine kDN ?_ _ | refine kDr ?_ | refine kAl ?_ _)); exact BK256.out) hb); have n2_ := aK (bSp (by repeat (first | (with_reducible first | exact HB.out | apply bAl | apply pbD | apply bD1 | refine bSt ?_ GE255.out | refine bSt ?_ GE256.out) | exact HB.out)) hb); clear BK255; clear BK256; clear HB; have BK255 := n0_; have BK256 := n1_; have HB := n2_; clear n0_ n1_ n2_; (try clear hb); (try clear hb2); (try clear hk); (try clear hi); have hcz38_0 : w37.cell? ⟨gb255, 0, none⟩ = some (.int .i64 a0_0) := (kCe BK255.out 0).trans rfl; have hcz38_1 : w37.cell? ⟨gb255, 1, none⟩ = some (.string a0_1) := (kCe BK255.out 1).trans rfl; have hcz38_2 : w37.cell? ⟨gb255, 2, none⟩ = some (.string a0_2) := (kCe BK255.out 2).trans rfl; have hcz38_3 : w37.cell? ⟨gb255, 3, none⟩ = some (.int .i64 a0_3) := (kCe BK255.out 3).trans rfl; have hcz38_4 : w37.cell? ⟨gb255, 4, none⟩ = some (.int .i64 a0_4) := (kCe BK255.out 4).trans rfl; have hcz39_0 : w37.cell? ⟨gb256, 0, none⟩ = some (.int .i64 a1_0) := (kCe BK256.out 0).trans rfl; have hcz39_1 : w37.cell? ⟨gb256, 1, none⟩ = some (.string a1_1) := (kCe BK256.out 1).trans rfl; have hcz39_2 : w37.cell? ⟨gb256, 2, none⟩ = some (.string a1_2) := (kCe BK256.out 2).trans rfl; have hcz39_3 : w37.cell? ⟨gb256, 3, none⟩ = some (.int .i64 a1_3) := (kCe BK256.out 3).trans rfl; have hcz39_4 : w37.cell? ⟨gb256, 4, none⟩ = some (.int .i64 a1_4) := (kCe BK256.out 4).trans rfl) | (go_at_call 50; (with_reducible refine (r9_Begins.calls a0_2 a1_2 true _ A31.out).mono ?_); rintro e w' ⟨rfl, ⟨nd, rfl⟩⟩))
         go_ret
         exact ⟨by first | rfl | (simp [eWn, eWs] <;> rfl) | (simp [*, eWn, eWs] <;> rfl), by repeat (first | (with_reducible first | exact HB.out | apply bAl | apply pbD | apply bD1 | refine bSt ?_ GE255.out | refine bSt ?_ GE256.out) | exact HB.out)⟩
      subst c25
      have H1 : (some true) = some r := by rw [if_pos rfl] at H; exact H
      clear H
      have H := H1
      clear H1
      obtain rfl := oI H
      go_wp2
      go_ret
      exact ⟨by first | rfl | (simp [eWn, eWs] <;> rfl) | (simp [*, eWn, eWs] <;> rfl), by repeat (first | (with_reducible first | exact HB.out | apply bAl | apply pbD | apply bD1 | refine bSt ?_ GE255.out | refine bSt ?_ GE256.out) | exact HB.out)⟩
   subst c13
   have H1 : (some true) = some r := by rw [if_pos rfl] at H; exact H
   clear H
   have H := H1
   clear H1
   obtain rfl := oI H
   go_wp2
   go_ret
   exact ⟨by first | rfl | (simp [eWn, eWs] <;> rfl) | (simp [*, eWn, eWs] <;> rfl), by repeat (first | (with_reducible first | exact HB.out | apply bAl | apply pbD | apply bD1 | refine bSt ?_ GE255.out | refine bSt ?_ GE256.out) | exact HB.out)⟩
end Go.Proofs.Ytbpbniemjjhecaa.PChk
