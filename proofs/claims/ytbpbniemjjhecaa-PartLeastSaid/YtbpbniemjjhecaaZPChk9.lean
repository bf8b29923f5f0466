import Derived.Test.YtbpbniemjjhecaaZPChk0
import Derived.Test.YtbpbniemjjhecaaZPChk7
namespace Go.Proofs.Ytbpbniemjjhecaa.PChk
open Go.RowKit Go.Proofs.Ytbpbniemjjhecaa.G Go.Proofs.YtbpbniemjjhecaaW.PrintWords Go.Proofs.YtbpbniemjjhecaaW.PrintLast Go.Proofs.YtbpbniemjjhecaaW.PrintMore
attribute [local go_sem] max2_int min2_int max_two min_two max_three min_three max_four min_four
set_option linter.unusedVariables false
set_option linter.unusedSimpArgs false
set_option maxHeartbeats 8000000
set_option maxRecDepth 100000
def check_spoils.j0 : Nat → Bool → Int → ByteArray → ByteArray → Int → Int → Int → ByteArray → ByteArray → Int → Int → Option (Bool)
 | 0, _, _, _, _, _, _, _, _, _, _, _ => none
 | k + 1, x5, x225000, x225001, x225002, x225003, x225004, x226000, x226001, x226002, x226003, x226004 => if x5 = true then (some true) else (if x225000 = 8 then (if x226000 = 5 then ((strings_HasPrefix.f x226002 x225002).bind fun t228 => (some t228)) else (some false)) else (some false))
def check_spoils.f (k : Nat) (a0_0 : Int) (a0_1 : ByteArray) (a0_2 : ByteArray) (a0_3 : Int) (a0_4 : Int) (a1_0 : Int) (a1_1 : ByteArray) (a1_2 : ByteArray) (a1_3 : Int) (a1_4 : Int) : Option (Bool) := (check_kept.f a0_0 a0_1 a0_2 a0_3 a0_4).bind fun t226 => (if t226 = true then ((strings_Contains.f a1_2 a0_2).bind fun t227 => (check_spoils.j0 k t227 a0_0 a0_1 a0_2 a0_3 a0_4 a1_0 a1_1 a1_2 a1_3 a1_4)) else (check_spoils.j0 k false a0_0 a0_1 a0_2 a0_3 a0_4 a1_0 a1_1 a1_2 a1_3 a1_4))
theorem check_spoils.calls (k : Nat) (a0_0 : Int) (a0_1 : ByteArray) (a0_2 : ByteArray) (a0_3 : Int) (a0_4 : Int) (a1_0 : Int) (a1_1 : ByteArray) (a1_2 : ByteArray) (a1_3 : Int) (a1_4 : Int) (r : Bool) (w : World) (h : check_spoils.f k a0_0 a0_1 a0_2 a0_3 a0_4 a1_0 a1_1 a1_2 a1_3 a1_4 = some r) :
  Calls Try.prog 65 #[.agg #[.int .i64 a0_0, .string a0_1, .string a0_2, .int .i64 a0_3, .int .i64 a0_4], .agg #[.int .i64 a1_0, .string a1_1, .string a1_2, .int .i64 a1_3, .int .i64 a1_4]] w fun e w' => e = .returned (.bool r) ∧ Below w.heap.size w w' := by
 have hu33 := Try.underlying33
 have HB := aK (Below.refl w.heap.size w)
 have H : ((check_kept.f a0_0 a0_1 a0_2 a0_3 a0_4).bind fun t226 => (if t226 = true then ((strings_Contains.f a1_2 a0_2).bind fun t227 => (check_spoils.j0 k t227 a0_0 a0_1 a0_2 a0_3 a0_4 a1_0 a1_1 a1_2 a1_3 a1_4)) else (check_spoils.j0 k false a0_0 a0_1 a0_2 a0_3 a0_4 a1_0 a1_1 a1_2 a1_3 a1_4))) = some r := h
 clear h
 have HC3 := aK H
 clear H
 go_enter Try.func65, Try.ntmps65
 go_upto_region 1 with (first | ((with_reducible refine gate_dst (N := 2) rfl ?_); refine box_event ?hg (N := 2) ?hd (cs := #[.int .i64 a0_0, .string a0_1, .string a0_2, .int .i64 a0_3, .int .i64 a0_4]) (t := 33) ?hr ?_; (case hd => rfl); (case hg => rfl); (case hr => first | (go_simp; done) | (go_simp; rfl)); intro gb224 hg w4 hbox hb; have n0_ := aK (bSp (by repeat (first | (with_reducible first | exact HB.out | apply bAl | apply pbD | apply bD1) | exact HB.out)) hb); have n1_ := aK (hbox); have n2_ := aK ((by rw [hg]; exact (bSz (by repeat (first | (with_reducible first | exact HB.out | apply bAl | apply pbD | apply bD1) | exact HB.out))) : w.heap.size ≤ gb224)); have n3_ := aK ((by rw [hg]; exact (bSz (by repeat (first | (with_reducible first | exact HB.out | apply bAl | apply pbD | apply bD1) | exact HB.out))) : w.heap.size ≤ gb224)); clear HB; have HB := n0_; have BK224 := n1_; have GW224 := n2_; have GE224 := n3_; clear n0_ n1_ n2_ n3_; clear hb hbox hg) | ((with_reducible refine gate_dst (N := 3) rfl ?_); refine box_event ?hg (N := 3) ?hd (cs := #[.int .i64 a1_0, .string a1_1, .string a1_2, .int .i64 a1_3, .int .i64 a1_4]) (t := 33) ?hr ?_; (case hd => rfl); (case hg => rfl); (case hr => first | (go_simp; done) | (go_simp; rfl)); intro gb225 hg w5 hbox hb; have n0_ := aK (kBe (g := gb224) (o := .cells #[.int .i64 a0_0, .string a0_1, .string a0_2, .int .i64 a0_3, .int .i64 a0_4] 33 (0, 0)) (by (with_reducible repeat (first | refine kDN ?_ _ | refine kDr ?_ | refine kAl ?_ _)); exact BK224.out) hb); have n1_ := aK (bSp (by repeat (first | (with_reducible first | exact HB.out | apply bAl | apply pbD | apply bD1 | refine bSt ?_ GE224.out) | exact HB.out)) hb); have n2_ := aK (hbox); have n3_ := aK ((by rw [hg]; exact (bSz (by repeat (first | (with_reducible first | exact HB.out | apply bAl | apply pbD | apply bD1 | refine bSt ?_ GE224.out) | exact HB.out))) : w.heap.size ≤ gb225)); have n4_ := aK ((by rw [hg]; exact (bSz (by repeat (first | (with_reducible first | exact HB.out | apply bAl | apply pbD | apply bD1 | refine bSt ?_ GE224.out) | exact HB.out))) : w.heap.size ≤ gb225)); have n5_ := aK ((by rw [hg]; exact Nat.ne_of_lt (blk_lt (g := gb224) (o := .cells #[.int .i64 a0_0, .string a0_1, .string a0_2, .int .i64 a0_3, .int .i64 a0_4] 33 (0, 0)) (by (with_reducible repeat (first | refine kDN ?_ _ | refine kDr ?_ | refine kAl ?_ _)); exact BK224.out)) : gb224 ≠ gb225)); have n6_ := aK ((by rw [hg]; exact Nat.ne_of_gt (blk_lt (g := gb224) (o := .cells #[.int .i64 a0_0, .string a0_1, .string a0_2, .int .i64 a0_3, .int .i64 a0_4] 33 (0, 0)) (by (with_reducible repeat (first | refine kDN ?_ _ | refine kDr ?_ | refine kAl ?_ _)); exact BK224.out)) : gb225 ≠ gb224)); clear BK224; clear HB; have BK224 := n0_; have HB := n1_; have BK225 := n2_; have GW225 := n3_; have GE225 := n4_; have NB224_225 := n5_; have NB225_224 := n6_; clear n0_ n1_ n2_ n3_ n4_ n5_ n6_; clear hb hbox hg))
 (try simp only [Act.put, qSa, qS0, qS1])
 go_cut [5] (fun v5 wc => ∃ (kq : Nat) (x5_2 : Bool), v5 = .bool x5_2 ∧ Aside0 (check_spoils.j0 kq x5_2 a0_0 a0_1 a0_2 a0_3 a0_4 a1_0 a1_1 a1_2 a1_3 a1_4 = some r) ∧ Aside0 (kq ≤ k) ∧ Aside0 (wc.heap[gb224]? = some (.cells #[.int .i64 a0_0, .string a0_1, .string a0_2, .int .i64 a0_3, .int .i64 a0_4] 33 (0, 0))) ∧ Aside0 (wc.heap[gb225]? = some (.cells #[.int .i64 a1_0, .string a1_1, .string a1_2, .int .i64 a1_3, .int .i64 a1_4] 33 (0, 0))) ∧ Aside0 (Below w.heap.size w wc))
 case first =>
  have H := HC3.out
  clear HC3
  replace H := oB H
  obtain ⟨t226, A60, H⟩ := H
  try dsimp only at H
  have A6 := aK A60
  clear A60
  by_cases c7 : t226 = true
  rotate_left
  ·
   replace c7 := Bool.eq_false_iff.mpr c7
   subst c7
   have H1 : (check_spoils.j0 k false a0_0 a0_1 a0_2 a0_3 a0_4 a1_0 a1_1 a1_2 a1_3 a1_4) = some r := by rw [if_neg (show ¬ (false = true) by decide)] at H; exact H
   clear H
   have H := H1
   clear H1
   have H' := aK H
   clear H
   have hnb14 := NB224_225.out
   have hnc14 := NB225_224.out
   have hcz15_0 : w5.cell? ⟨gb224, 0, none⟩ = some (.int .i64 a0_0) := (kCe BK224.out 0).trans rfl
   have hcz15_1 : w5.cell? ⟨gb224, 1, none⟩ = some (.string a0_1) := (kCe BK224.out 1).trans rfl
   have hcz15_2 : w5.cell? ⟨gb224, 2, none⟩ = some (.string a0_2) := (kCe BK224.out 2).trans rfl
   have hcz15_3 : w5.cell? ⟨gb224, 3, none⟩ = some (.int .i64 a0_3) := (kCe BK224.out 3).trans rfl
   have hcz15_4 : w5.cell? ⟨gb224, 4, none⟩ = some (.int .i64 a0_4) := (kCe BK224.out 4).trans rfl
   go_wp2_with (first | ((with_reducible refine gate_callee (f := 82) rfl ?_); refine goesL_ (some 7) rfl rfl Try.func82 (by kernel_rfl) rfl #[.agg #[.int .i64 a0_0, .string a0_1, .string a0_2, .int .i64 a0_3, .int .i64 a0_4]] rfl (by (try simp only [qM0, qM1, qM2]); first | done | rfl | (simp only [qD0, qD1]; rfl)) ?_; (with_reducible refine (check_kept.calls a0_0 a0_1 a0_2 a0_3 a0_4 false _ A6.out).mono ?_); rintro e w16 ⟨rfl, hb⟩; refine ⟨_, rfl, ?_⟩; have n0_ := aK (kBe (g := gb224) (o := .cells #[.int .i64 a0_0, .string a0_1, .string a0_2, .int .i64 a0_3, .int .i64 a0_4] 33 (0, 0)) (by (with_reducible repeat (first | refine kDN ?_ _ | refine kDr ?_ | refine kAl ?_ _)); exact BK224.out) hb); have n1_ := aK (kBe (g := gb225) (o := .cells #[.int .i64 a1_0, .string a1_1, .string a1_2, .int .i64 a1_3, .int .i64 a1_4] 33 (0, 0)) (by (with_reducible repeat (first | refine kDN ?_ _ | refine kDr ?_ | refine kAl ?_ _)); exact BK225.out) hb); have n2_ := aK (bSp (by repeat (first | (with_reducible first | exact HB.out | apply bAl | apply pbD | apply bD1 | refine bSt ?_ GE224.out | refine bSt ?_ GE225.out) | exact HB.out)) hb); clear BK224; clear BK225; clear HB; have BK224 := n0_; have BK225 := n1_; have HB := n2_; clear n0_ n1_ n2_; (try clear hb); (try clear hb2); (try clear hk); (try clear hi)))
   go_meet
   case rel => exact ⟨_, (false), (by first | rfl | (simp; done) | (simp [*]; done)), H', ⟨by first | omega | exact Nat.le_refl _⟩, ⟨by (with_reducible repeat (first | refine kDN ?_ _ | refine kDr ?_ | refine kAl ?_ _)); exact BK224.out⟩, ⟨by (with_reducible repeat (first | refine kDN ?_ _ | refine kDr ?_ | refine kAl ?_ _)); exact BK225.out⟩, ⟨by repeat (first | (with_reducible first | exact HB.out | apply bAl | apply pbD | apply bD1 | refine bSt ?_ GE224.out | refine bSt ?_ GE225.out) | exact HB.out)⟩⟩
  subst c7
  have H1 : ((strings_Contains.f a1_2 a0_2).bind fun t227 => (check_spoils.j0 k t227 a0_0 a0_1 a0_2 a0_3 a0_4 a1_0 a1_1 a1_2 a1_3 a1_4)) = some r := by rw [if_pos rfl] at H; exact H
  clear H
  have H := H1
  clear H1
  replace H := oB H
  obtain ⟨t227, A80, H⟩ := H
  try dsimp only at H
  have A8 := aK A80
  clear A80
  have H' := aK H
  clear H
  have hnb9 := NB224_225.out
  have hnc9 := NB225_224.out
  have hcz10_0 : w5.cell? ⟨gb224, 0, none⟩ = some (.int .i64 a0_0) := (kCe BK224.out 0).trans rfl
  have hcz10_1 : w5.cell? ⟨gb224, 1, none⟩ = some (.string a0_1) := (kCe BK224.out 1).trans rfl
  have hcz10_2 : w5.cell? ⟨gb224, 2, none⟩ = some (.string a0_2) := (kCe BK224.out 2).trans rfl
  have hcz10_3 : w5.cell? ⟨gb224, 3, none⟩ = some (.int .i64 a0_3) := (kCe BK224.out 3).trans rfl
  have hcz10_4 : w5.cell? ⟨gb224, 4, none⟩ = some (.int .i64 a0_4) := (kCe BK224.out 4).trans rfl
  go_wp2_with (first | ((with_reducible refine gate_callee (f := 82) rfl ?_); refine goesL_ (some 7) rfl rfl Try.func82 (by kernel_rfl) rfl #[.agg #[.int .i64 a0_0, .string a0_1, .string a0_2, .int .i64 a0_3, .int .i64 a0_4]] rfl (by (try simp only [qM0, qM1, qM2]); first | done | rfl | (simp only [qD0, qD1]; rfl)) ?_; (with_reducible refine (check_kept.calls a0_0 a0_1 a0_2 a0_3 a0_4 true _ A6.out).mono ?_); rintro e w11 ⟨rfl, hb⟩; refine ⟨_, rfl, ?_⟩; have n0_ := aK (kBe (g := gb224) (o := .cells #[.int .i64 a0_0, .string a0_1, .string a0_2, .int .i64 a0_3, .int .i64 a0_4] 33 (0, 0)) (by (with_reducible repeat (first | refine kDN ?_ _ | refine kDr ?_ | refine kAl ?_ _)); exact BK224.out) hb); have n1_ := aK (kBe (g := gb225) (o := .cells #[.int .i64 a1_0, .string a1_1, .string a1_2, .int .i64 a1_3, .int .i64 a1_4] 33 (0, 0)) (by (with_reducible repeat (first | refine kDN ?_ _ | refine kDr ?_ | refine kAl ?_ _)); exact BK225.out) hb); have n2_ := aK (bSp (by repeat (first | (with_reducible first | exact HB.out | apply bAl | apply pbD | apply bD1 | refine bSt ?_ GE224.out | refine bSt ?_ GE225.out) | exact HB.out)) hb); clear BK224; clear BK225; clear HB; have BK224 := n0_; have BK225 := n1_; have HB := n2_; clear n0_ n1_ n2_; (try clear hb); (try clear hb2); (try clear hk); (try clear hi); have hcz12_0 : w11.cell? ⟨gb225, 0, none⟩ = some (.int .i64 a1_0) := (kCe BK225.out 0).trans rfl; have hcz12_1 : w11.cell? ⟨gb225, 1, none⟩ = some (.string a1_1) := (kCe BK225.out 1).trans rfl; have hcz12_2 : w11.cell? ⟨gb225, 2, none⟩ = some (.string a1_2) := (kCe BK225.out 2).trans rfl; have hcz12_3 : w11.cell? ⟨gb225, 3, none⟩ = some (.int .i64 a1_3) := (kCe BK225.out 3).trans rfl; have hcz12_4 : w11.cell? ⟨gb225, 4, none⟩ = some (.int .i64 a1_4) := (kCe BK225.out 4).trans rfl; have hcz13_0 : w11.cell? ⟨gb224, 0, none⟩ = some (.int .i64 a0_0) := (kCe BK224.out 0).trans rfl; have hcz13_1 : w11.cell? ⟨gb224, 1, none⟩ = some (.string a0_1) := (kCe BK224.out 1).trans rfl; have hcz13_2 : w11.cell? ⟨gb224, 2, none⟩ = some (.string a0_2) := (kCe BK224.out 2).trans rfl; have hcz13_3 : w11.cell? ⟨gb224, 3, none⟩ = some (.int .i64 a0_3) := (kCe BK224.out 3).trans rfl; have hcz13_4 : w11.cell? ⟨gb224, 4, none⟩ = some (.int .i64 a0_4) := (kCe BK224.out 4).trans rfl) | (go_at_call 84; (with_reducible refine (strings_Contains.calls a1_2 a0_2 t227 _ A8.out).mono ?_); rintro e w' ⟨rfl, ⟨nd, rfl⟩⟩))
  go_meet
  case rel => exact ⟨_, (t227), (by first | rfl | (simp; done) | (simp [*]; done)), H', ⟨by first | omega | exact Nat.le_refl _⟩, ⟨by (with_reducible repeat (first | refine kDN ?_ _ | refine kDr ?_ | refine kAl ?_ _)); exact BK224.out⟩, ⟨by (with_reducible repeat (first | refine kDN ?_ _ | refine kDr ?_ | refine kAl ?_ _)); exact BK225.out⟩, ⟨by repeat (first | (with_reducible first | exact HB.out | apply bAl | apply pbD | apply bD1 | refine bSt ?_ GE224.out | refine bSt ?_ GE225.out) | exact HB.out)⟩⟩
 case rest =>
  clear HC3
  try clear c1
  try clear p2
  try clear c6
  try clear c7
  try clear c8
  try clear c9
  try clear c14
  try clear hcz10_0
  try clear hcz10_1
  try clear hcz10_2
  try clear hcz10_3
  try clear hcz10_4
  try clear hcz12_0
  try clear hcz12_1
  try clear hcz12_2
  try clear hcz12_3
  try clear hcz12_4
  try clear hcz13_0
  try clear hcz13_1
  try clear hcz13_2
  try clear hcz13_3
  try clear hcz13_4
  try clear hcz15_0
  try clear hcz15_1
  try clear hcz15_2
  try clear hcz15_3
  try clear hcz15_4
  obtain ⟨kq, x5_2, rfl, HA, HJ2, BK224, BK225, HB⟩ := hcut
  cases kq with
  | zero => exact absurd HA.out (by simp [check_spoils.j0])
  | succ kj2 =>
   have H := HA.out
   clear HA
   simp only [check_spoils.j0] at H
   by_cases c17 : x5_2 = true
   rotate_left
   ·
    replace c17 := Bool.eq_false_iff.mpr c17
    subst c17
    have H1 : (if a0_0 = 8 then (if a1_0 = 5 then ((strings_HasPrefix.f a1_2 a0_2).bind fun t228 => (some t228)) else (some false)) else (some false)) = some r := by rw [if_neg (show ¬ (false = true) by decide)] at H; exact H
    clear H
    have H := H1
    clear H1
    by_cases c18 : a0_0 = 8
    rotate_left
    ·
     rw [if_neg c18] at H
     have c18b0 : (a0_0 == 8) = false := beq_eq_false_iff_ne.mpr c18
     have c18b1 : (a0_0 != 8) = true := bne_iff_ne.mpr c18
     obtain rfl := oI H
     have hnb27 := NB224_225.out
     have hnc27 := NB225_224.out
     have hcz28_0 : wc.cell? ⟨gb224, 0, none⟩ = some (.int .i64 a0_0) := (kCe BK224.out 0).trans rfl
     have hcz28_1 : wc.cell? ⟨gb224, 1, none⟩ = some (.string a0_1) := (kCe BK224.out 1).trans rfl
     have hcz28_2 : wc.cell? ⟨gb224, 2, none⟩ = some (.string a0_2) := (kCe BK224.out 2).trans rfl
     have hcz28_3 : wc.cell? ⟨gb224, 3, none⟩ = some (.int .i64 a0_3) := (kCe BK224.out 3).trans rfl
     have hcz28_4 : wc.cell? ⟨gb224, 4, none⟩ = some (.int .i64 a0_4) := (kCe BK224.out 4).trans rfl
     go_wp2
     go_ret
     exact ⟨by first | rfl | (simp [eWn, eWs] <;> rfl) | (simp [*, eWn, eWs] <;> rfl), by repeat (first | (with_reducible first | exact HB.out | apply bAl | apply pbD | apply bD1 | refine bSt ?_ GE224.out | refine bSt ?_ GE225.out) | exact HB.out)⟩
    rw [if_pos c18] at H
    have c18b0 : (a0_0 == 8) = true := beq_iff_eq.mpr c18
    have c18b1 : (a0_0 != 8) = false := bne_eq_false_iff_eq.mpr c18
    clear c18
    by_cases c19 : a1_0 = 5
    rotate_left
    ·
     rw [if_neg c19] at H
     have c19b0 : (a1_0 == 5) = false := beq_eq_false_iff_ne.mpr c19
     have c19b1 : (a1_0 != 5) = true := bne_iff_ne.mpr c19
     obtain rfl := oI H
     have hnb24 := NB224_225.out
     have hnc24 := NB225_224.out
     have hcz25_0 : wc.cell? ⟨gb224, 0, none⟩ = some (.int .i64 a0_0) := (kCe BK224.out 0).trans rfl
     have hcz25_1 : wc.cell? ⟨gb224, 1, none⟩ = some (.string a0_1) := (kCe BK224.out 1).trans rfl
     have hcz25_2 : wc.cell? ⟨gb224, 2, none⟩ = some (.string a0_2) := (kCe BK224.out 2).trans rfl
     have hcz25_3 : wc.cell? ⟨gb224, 3, none⟩ = some (.int .i64 a0_3) := (kCe BK224.out 3).trans rfl
     have hcz25_4 : wc.cell? ⟨gb224, 4, none⟩ = some (.int .i64 a0_4) := (kCe BK224.out 4).trans rfl
     have hcz26_0 : wc.cell? ⟨gb225, 0, none⟩ = some (.int .i64 a1_0) := (kCe BK225.out 0).trans rfl
     have hcz26_1 : wc.cell? ⟨gb225, 1, none⟩ = some (.string a1_1) := (kCe BK225.out 1).trans rfl
     have hcz26_2 : wc.cell? ⟨gb225, 2, none⟩ = some (.string a1_2) := (kCe BK225.out 2).trans rfl
     have hcz26_3 : wc.cell? ⟨gb225, 3, none⟩ = some (.int .i64 a1_3) := (kCe BK225.out 3).trans rfl
     have hcz26_4 : wc.cell? ⟨gb225, 4, none⟩ = some (.int .i64 a1_4) := (kCe BK225.out 4).trans rfl
     go_wp2
     go_ret
     exact ⟨by first | rfl | (simp [eWn, eWs] <;> rfl) | (simp [*, eWn, eWs] <;> rfl), by repeat (first | (with_reducible first | exact HB.out | apply bAl | apply pbD | apply bD1 | refine bSt ?_ GE224.out | refine bSt ?_ GE225.out) | exact HB.out)⟩
    rw [if_pos c19] at H
    have c19b0 : (a1_0 == 5) = true := beq_iff_eq.mpr c19
    have c19b1 : (a1_0 != 5) = false := bne_eq_false_iff_eq.mpr c19
    clear c19
    replace H := oB H
    obtain ⟨t228, A200, H⟩ := H
    replace H : (some t228) = some r := H
    have A20 := aK A200
    clear A200
    obtain rfl := oI H
    have hnb21 := NB224_225.out
    have hnc21 := NB225_224.out
    have hcz22_0 : wc.cell? ⟨gb224, 0, none⟩ = some (.int .i64 a0_0) := (kCe BK224.out 0).trans rfl
    have hcz22_1 : wc.cell? ⟨gb224, 1, none⟩ = some (.string a0_1) := (kCe BK224.out 1).trans rfl
    have hcz22_2 : wc.cell? ⟨gb224, 2, none⟩ = some (.string a0_2) := (kCe BK224.out 2).trans rfl
    have hcz22_3 : wc.cell? ⟨gb224, 3, none⟩ = some (.int .i64 a0_3) := (kCe BK224.out 3).trans rfl
    have hcz22_4 : wc.cell? ⟨gb224, 4, none⟩ = some (.int .i64 a0_4) := (kCe BK224.out 4).trans rfl
    have hcz23_0 : wc.cell? ⟨gb225, 0, none⟩ = some (.int .i64 a1_0) := (kCe BK225.out 0).trans rfl
    have hcz23_1 : wc.cell? ⟨gb225, 1, none⟩ = some (.string a1_1) := (kCe BK225.out 1).trans rfl
    have hcz23_2 : wc.cell? ⟨gb225, 2, none⟩ = some (.string a1_2) := (kCe BK225.out 2).trans rfl
    have hcz23_3 : wc.cell? ⟨gb225, 3, none⟩ = some (.int .i64 a1_3) := (kCe BK225.out 3).trans rfl
    have hcz23_4 : wc.cell? ⟨gb225, 4, none⟩ = some (.int .i64 a1_4) := (kCe BK225.out 4).trans rfl
    go_wp2_with (first | ((with_reducible refine gate_callee (f := 83) rfl ?_); refine goesL_ (some 28) rfl rfl Try.func83 (by kernel_rfl) rfl #[.string a1_2, .string a0_2] rfl (by (try simp only [qM0, qM1, qM2]); first | done | rfl | (simp only [qD0, qD1]; rfl)) ?_; (with_reducible refine (strings_HasPrefix.calls a1_2 a0_2 t228 _ A20.out).mono ?_); rintro e w' ⟨rfl, ⟨nd, rfl⟩⟩; refine ⟨_, rfl, ?_⟩))
    go_ret
    exact ⟨by first | rfl | (simp [eWn, eWs] <;> rfl) | (simp [*, eWn, eWs] <;> rfl), by repeat (first | (with_reducible first | exact HB.out | apply bAl | apply pbD | apply bD1 | refine bSt ?_ GE224.out | refine bSt ?_ GE225.out) | exact HB.out)⟩
   subst c17
   have H1 : (some true) = some r := by rw [if_pos rfl] at H; exact H
   clear H
   have H := H1
   clear H1
   obtain rfl := oI H
   go_wp2
   go_ret
   exact ⟨by first | rfl | (simp [eWn, eWs] <;> rfl) | (simp [*, eWn, eWs] <;> rfl), by repeat (first | (with_reducible first | exact HB.out | apply bAl | apply pbD | apply bD1 | refine bSt ?_ GE224.out | refine bSt ?_ GE225.out) | exact HB.out)⟩
end Go.Proofs.Ytbpbniemjjhecaa.PChk
