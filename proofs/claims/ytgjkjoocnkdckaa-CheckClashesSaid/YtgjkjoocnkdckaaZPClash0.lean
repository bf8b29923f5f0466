-- Written by a program of this session (clashes.py), out of printed walks. Lean checks it.
import Derived.Test.YtgjkjoocnkdckaaZPChk2
import Derived.Test.YtgjkjoocnkdckaaZPChk3
import Derived.Test.YtgjkjoocnkdckaaZShelf
namespace Go.Proofs.Ytgjkjoocnkdckaa.PChk
open Go.RowKit Go.Proofs.Ytgjkjoocnkdckaa.G Go.Proofs.YtgjkjoocnkdckaaW.PrintWords Go.Proofs.YtgjkjoocnkdckaaW.PrintLast Go.Proofs.YtgjkjoocnkdckaaW.PrintMore
attribute [local go_sem] max2_int min2_int max_two min_two max_three min_three max_four min_four   -- for this text's walks alone
set_option linter.unusedVariables false
set_option linter.unusedSimpArgs false
def MaxAt (w : World) : Prop := ∃ m : Int, w.cell? ⟨0, 0, none⟩ = some (.int .i64 m)
theorem MaxAt.of {w w1 : World} (h : MaxAt w) (hb : Below w.heap.size w w1) : MaxAt w1 := by
 obtain ⟨m, hm⟩ := h
 exact ⟨m, (hb.cell (World.block_lt_of_cell? w _ hm)).trans hm⟩
def strings_ContainsA.f (a0 a1 : ByteArray) : Option Bool := if a0.size < 4294967281 then some (Lib.contains a0.data.toList a1.data.toList) else none
theorem strings_ContainsA.calls (a0 a1 : ByteArray) (r : Bool) (w : World) (h : strings_ContainsA.f a0 a1 = some r) (hm : MaxAt w) :
  Calls Try.prog 44 #[.string a0, .string a1] w fun e w' => e = .returned (.bool r) ∧ Drawn0 w w' := by
 unfold strings_ContainsA.f at h
 split at h
 ·
  next hs =>
  obtain rfl := oI h
  obtain ⟨m, hm⟩ := hm
  refine (Try.strings_Contains a0 a1 m w hs hm).mono ?_
  rintro e w' ⟨rfl, rfl⟩
  exact ⟨rfl, Drawn0.refl _⟩
 ·
  cases h
def check_spoilsA.j0 : Nat → Bool → Int → ByteArray → ByteArray → Int → Int → Int → ByteArray → ByteArray → Int → Int → Option (Bool)
 | 0, _, _, _, _, _, _, _, _, _, _, _ => none
 | k + 1, x5, x123000, x123001, x123002, x123003, x123004, x124000, x124001, x124002, x124003, x124004 => if x5 = true then (some true) else (if x123000 = 8 then (if x124000 = 5 then ((strings_HasPrefix.f x124002 x123002).bind fun t126 => (some t126)) else (some false)) else (some false))
def check_spoilsA.f (k : Nat) (a0_0 : Int) (a0_1 : ByteArray) (a0_2 : ByteArray) (a0_3 : Int) (a0_4 : Int) (a1_0 : Int) (a1_1 : ByteArray) (a1_2 : ByteArray) (a1_3 : Int) (a1_4 : Int) : Option (Bool) := (check_kept.f a0_0 a0_1 a0_2 a0_3 a0_4).bind fun t124 => (if t124 = true then ((strings_ContainsA.f a1_2 a0_2).bind fun t125 => (check_spoilsA.j0 k t125 a0_0 a0_1 a0_2 a0_3 a0_4 a1_0 a1_1 a1_2 a1_3 a1_4)) else (check_spoilsA.j0 k false a0_0 a0_1 a0_2 a0_3 a0_4 a1_0 a1_1 a1_2 a1_3 a1_4))
theorem check_spoilsA.mono_l : ∀ k, (∀ y0 y1 y2 y3 y4 y5 y6 y7 y8 y9 y10, LeO (check_spoilsA.j0 k y0 y1 y2 y3 y4 y5 y6 y7 y8 y9 y10) (check_spoilsA.j0 (k + 1) y0 y1 y2 y3 y4 y5 y6 y7 y8 y9 y10))
 | 0 => fun _ _ _ _ _ _ _ _ _ _ _ r h => by simp [check_spoilsA.j0] at h
 | k + 1 => by
  have ih0 := check_spoilsA.mono_l k
  ·
   intro y0 y1 y2 y3 y4 y5 y6 y7 y8 y9 y10
   unfold check_spoilsA.j0
   repeat' first
   | (with_reducible exact ih0 _ _ _ _ _ _ _ _ _ _ _)
   | (with_reducible exact LeO.refl _)
   | (with_reducible exact LeO.none _)
   | (with_reducible refine LeO.ite ?_ ?_)
   | (with_reducible refine LeO.bind ?_ (fun _ => ?_))
   | exact ih0 _ _ _ _ _ _ _ _ _ _ _
   | exact LeO.none _
   | refine LeO.ite ?_ ?_
   | refine LeO.bind ?_ (fun _ => ?_)
theorem check_spoilsA.mono : ∀ a0 a1 a2 a3 a4 a5 a6 a7 a8 a9 k, LeO (check_spoilsA.f k a0 a1 a2 a3 a4 a5 a6 a7 a8 a9) (check_spoilsA.f (k + 1) a0 a1 a2 a3 a4 a5 a6 a7 a8 a9) := by
 intro a0 a1 a2 a3 a4 a5 a6 a7 a8 a9 k
 have ih0 := check_spoilsA.mono_l k
 unfold check_spoilsA.f
 repeat' first
   | (with_reducible exact ih0 _ _ _ _ _ _ _ _ _ _ _)
   | (with_reducible exact LeO.refl _)
   | (with_reducible exact LeO.none _)
   | (with_reducible refine LeO.ite ?_ ?_)
   | (with_reducible refine LeO.bind ?_ (fun _ => ?_))
   | exact ih0 _ _ _ _ _ _ _ _ _ _ _
   | exact LeO.none _
   | refine LeO.ite ?_ ?_
   | refine LeO.bind ?_ (fun _ => ?_)
set_option maxHeartbeats 8000000 in
set_option maxRecDepth 100000 in
theorem check_spoilsA.calls (k : Nat) (a0_0 : Int) (a0_1 : ByteArray) (a0_2 : ByteArray) (a0_3 : Int) (a0_4 : Int) (a1_0 : Int) (a1_1 : ByteArray) (a1_2 : ByteArray) (a1_3 : Int) (a1_4 : Int) (r : Bool) (w : World) (h : check_spoilsA.f k a0_0 a0_1 a0_2 a0_3 a0_4 a1_0 a1_1 a1_2 a1_3 a1_4 = some r) (hmx0 : MaxAt w) :
  Calls Try.prog 24 #[.agg #[.int .i64 a0_0, .string a0_1, .string a0_2, .int .i64 a0_3, .int .i64 a0_4], .agg #[.int .i64 a1_0, .string a1_1, .string a1_2, .int .i64 a1_3, .int .i64 a1_4]] w fun e w' => e = .returned (.bool r) ∧ Below w.heap.size w w' := by
 have hmx := aK hmx0
 clear hmx0
 have hu23 := Try.underlying23
 have HB := aK (Below.refl w.heap.size w)
 have H : ((check_kept.f a0_0 a0_1 a0_2 a0_3 a0_4).bind fun t124 => (if t124 = true then ((strings_ContainsA.f a1_2 a0_2).bind fun t125 => (check_spoilsA.j0 k t125 a0_0 a0_1 a0_2 a0_3 a0_4 a1_0 a1_1 a1_2 a1_3 a1_4)) else (check_spoilsA.j0 k false a0_0 a0_1 a0_2 a0_3 a0_4 a1_0 a1_1 a1_2 a1_3 a1_4))) = some r := h
 clear h
 have HC3 := aK H
 clear H
 go_enter Try.func24, Try.ntmps24
 go_upto_region 1 with (first | ((with_reducible refine gate_dst (N := 2) rfl ?_); refine box_event ?hg (N := 2) ?hd (cs := #[.int .i64 a0_0, .string a0_1, .string a0_2, .int .i64 a0_3, .int .i64 a0_4]) (t := 23) ?hr ?_; (case hd => rfl); (case hg => rfl); (case hr => first | (go_simp; done) | (go_simp; rfl)); intro gb122 hg w4 hbox hb; have n0_ := aK (bSp (by repeat (first | (with_reducible first | exact HB.out | apply bAl | apply pbD | apply bD1) | exact HB.out)) hb); have n1_ := aK (hbox); have n2_ := aK ((by rw [hg]; exact (bSz (by repeat (first | (with_reducible first | exact HB.out | apply bAl | apply pbD | apply bD1) | exact HB.out))) : w.heap.size ≤ gb122)); have n3_ := aK ((by rw [hg]; exact (bSz (by repeat (first | (with_reducible first | exact HB.out | apply bAl | apply pbD | apply bD1) | exact HB.out))) : w.heap.size ≤ gb122)); clear HB; have HB := n0_; have BK122 := n1_; have GW122 := n2_; have GE122 := n3_; clear n0_ n1_ n2_ n3_; clear hb hbox hg) | ((with_reducible refine gate_dst (N := 3) rfl ?_); refine box_event ?hg (N := 3) ?hd (cs := #[.int .i64 a1_0, .string a1_1, .string a1_2, .int .i64 a1_3, .int .i64 a1_4]) (t := 23) ?hr ?_; (case hd => rfl); (case hg => rfl); (case hr => first | (go_simp; done) | (go_simp; rfl)); intro gb123 hg w5 hbox hb; have n0_ := aK (kBe (g := gb122) (o := .cells #[.int .i64 a0_0, .string a0_1, .string a0_2, .int .i64 a0_3, .int .i64 a0_4] 23 (0, 0)) (by (with_reducible repeat (first | refine kDN ?_ _ | refine kDr ?_ | refine kAl ?_ _)); exact BK122.out) hb); have n1_ := aK (bSp (by repeat (first | (with_reducible first | exact HB.out | apply bAl | apply pbD | apply bD1 | refine bSt ?_ GE122.out) | exact HB.out)) hb); have n2_ := aK (hbox); have n3_ := aK ((by rw [hg]; exact (bSz (by repeat (first | (with_reducible first | exact HB.out | apply bAl | apply pbD | apply bD1 | refine bSt ?_ GE122.out) | exact HB.out))) : w.heap.size ≤ gb123)); have n4_ := aK ((by rw [hg]; exact (bSz (by repeat (first | (with_reducible first | exact HB.out | apply bAl | apply pbD | apply bD1 | refine bSt ?_ GE122.out) | exact HB.out))) : w.heap.size ≤ gb123)); have n5_ := aK ((by rw [hg]; exact Nat.ne_of_lt (blk_lt (g := gb122) (o := .cells #[.int .i64 a0_0, .string a0_1, .string a0_2, .int .i64 a0_3, .int .i64 a0_4] 23 (0, 0)) (by (with_reducible repeat (first | refine kDN ?_ _ | refine kDr ?_ | refine kAl ?_ _)); exact BK122.out)) : gb122 ≠ gb123)); have n6_ := aK ((by rw [hg]; exact Nat.ne_of_gt (blk_lt (g := gb122) (o := .cells #[.int .i64 a0_0, .string a0_1, .string a0_2, .int .i64 a0_3, .int .i64 a0_4] 23 (0, 0)) (by (with_reducible repeat (first | refine kDN ?_ _ | refine kDr ?_ | refine kAl ?_ _)); exact BK122.out)) : gb123 ≠ gb122)); clear BK122; clear HB; have BK122 := n0_; have HB := n1_; have BK123 := n2_; have GW123 := n3_; have GE123 := n4_; have NB122_123 := n5_; have NB123_122 := n6_; clear n0_ n1_ n2_ n3_ n4_ n5_ n6_; clear hb hbox hg))
 (try simp only [Act.put, qSa, qS0, qS1])
 go_cut [5] (fun v5 wc => ∃ (kq : Nat) (x5_2 : Bool), v5 = .bool x5_2 ∧ Aside0 (check_spoilsA.j0 kq x5_2 a0_0 a0_1 a0_2 a0_3 a0_4 a1_0 a1_1 a1_2 a1_3 a1_4 = some r) ∧ Aside0 (kq ≤ k) ∧ Aside0 (wc.heap[gb122]? = some (.cells #[.int .i64 a0_0, .string a0_1, .string a0_2, .int .i64 a0_3, .int .i64 a0_4] 23 (0, 0))) ∧ Aside0 (wc.heap[gb123]? = some (.cells #[.int .i64 a1_0, .string a1_1, .string a1_2, .int .i64 a1_3, .int .i64 a1_4] 23 (0, 0))) ∧ Aside0 (Below w.heap.size w wc))
 case first =>
  have H := HC3.out
  clear HC3
  replace H := oB H
  obtain ⟨t124, A60, H⟩ := H
  try dsimp only at H
  have A6 := aK A60
  clear A60
  by_cases c7 : t124 = true
  ·
   subst c7
   have H1 : ((strings_ContainsA.f a1_2 a0_2).bind fun t125 => (check_spoilsA.j0 k t125 a0_0 a0_1 a0_2 a0_3 a0_4 a1_0 a1_1 a1_2 a1_3 a1_4)) = some r := by rw [if_pos rfl] at H; exact H
   clear H
   have H := H1
   clear H1
   replace H := oB H
   obtain ⟨t125, A80, H⟩ := H
   try dsimp only at H
   have A8 := aK A80
   clear A80
   have H' := aK H
   clear H
   have hnb9 := NB122_123.out
   have hnc9 := NB123_122.out
   have hcz10_0 : w5.cell? ⟨gb122, 0, none⟩ = some (.int .i64 a0_0) := (kCe BK122.out 0).trans rfl
   have hcz10_1 : w5.cell? ⟨gb122, 1, none⟩ = some (.string a0_1) := (kCe BK122.out 1).trans rfl
   have hcz10_2 : w5.cell? ⟨gb122, 2, none⟩ = some (.string a0_2) := (kCe BK122.out 2).trans rfl
   have hcz10_3 : w5.cell? ⟨gb122, 3, none⟩ = some (.int .i64 a0_3) := (kCe BK122.out 3).trans rfl
   have hcz10_4 : w5.cell? ⟨gb122, 4, none⟩ = some (.int .i64 a0_4) := (kCe BK122.out 4).trans rfl
   go_wp2_with (first | ((with_reducible refine gate_callee (f := 43) rfl ?_); refine goesL_ (some 7) rfl rfl Try.func43 (by kernel_rfl) rfl #[.agg #[.int .i64 a0_0, .string a0_1, .string a0_2, .int .i64 a0_3, .int .i64 a0_4]] rfl (by (try simp only [qM0, qM1, qM2]); first | done | rfl | (simp only [qD0, qD1]; rfl)) ?_; (with_reducible refine (check_kept.calls a0_0 a0_1 a0_2 a0_3 a0_4 true _ A6.out).mono ?_); rintro e w11 ⟨rfl, hb⟩; refine ⟨_, rfl, ?_⟩; have n0_ := aK (kBe (g := gb122) (o := .cells #[.int .i64 a0_0, .string a0_1, .string a0_2, .int .i64 a0_3, .int .i64 a0_4] 23 (0, 0)) (by (with_reducible repeat (first | refine kDN ?_ _ | refine kDr ?_ | refine kAl ?_ _)); exact BK122.out) hb); have n1_ := aK (kBe (g := gb123) (o := .cells #[.int .i64 a1_0, .string a1_1, .string a1_2, .int .i64 a1_3, .int .i64 a1_4] 23 (0, 0)) (by (with_reducible repeat (first | refine kDN ?_ _ | refine kDr ?_ | refine kAl ?_ _)); exact BK123.out) hb); have n2_ := aK (bSp (by repeat (first | (with_reducible first | exact HB.out | apply bAl | apply pbD | apply bD1 | refine bSt ?_ GE122.out | refine bSt ?_ GE123.out) | exact HB.out)) hb); clear BK122; clear BK123; clear HB; have BK122 := n0_; have BK123 := n1_; have HB := n2_; clear n0_ n1_ n2_; (try clear hb); (try clear hb2); (try clear hk); (try clear hi); have hcz12_0 : w11.cell? ⟨gb123, 0, none⟩ = some (.int .i64 a1_0) := (kCe BK123.out 0).trans rfl; have hcz12_1 : w11.cell? ⟨gb123, 1, none⟩ = some (.string a1_1) := (kCe BK123.out 1).trans rfl; have hcz12_2 : w11.cell? ⟨gb123, 2, none⟩ = some (.string a1_2) := (kCe BK123.out 2).trans rfl; have hcz12_3 : w11.cell? ⟨gb123, 3, none⟩ = some (.int .i64 a1_3) := (kCe BK123.out 3).trans rfl; have hcz12_4 : w11.cell? ⟨gb123, 4, none⟩ = some (.int .i64 a1_4) := (kCe BK123.out 4).trans rfl; have hcz13_0 : w11.cell? ⟨gb122, 0, none⟩ = some (.int .i64 a0_0) := (kCe BK122.out 0).trans rfl; have hcz13_1 : w11.cell? ⟨gb122, 1, none⟩ = some (.string a0_1) := (kCe BK122.out 1).trans rfl; have hcz13_2 : w11.cell? ⟨gb122, 2, none⟩ = some (.string a0_2) := (kCe BK122.out 2).trans rfl; have hcz13_3 : w11.cell? ⟨gb122, 3, none⟩ = some (.int .i64 a0_3) := (kCe BK122.out 3).trans rfl; have hcz13_4 : w11.cell? ⟨gb122, 4, none⟩ = some (.int .i64 a0_4) := (kCe BK122.out 4).trans rfl) | (go_at_call 44; (with_reducible refine (strings_ContainsA.calls a1_2 a0_2 t125 _ A8.out (hmx.out.of (by repeat (first | (with_reducible first | exact HB.out | apply bAl | apply pbD | apply bD1) | exact HB.out)))).mono ?_); rintro e w' ⟨rfl, ⟨nd, rfl⟩⟩))
   go_meet
   case rel => exact ⟨_, (t125), (by first | rfl | (simp; done) | (simp [*]; done)), H', ⟨by first | omega | exact Nat.le_refl _⟩, ⟨by (with_reducible repeat (first | refine kDN ?_ _ | refine kDr ?_ | refine kAl ?_ _)); exact BK122.out⟩, ⟨by (with_reducible repeat (first | refine kDN ?_ _ | refine kDr ?_ | refine kAl ?_ _)); exact BK123.out⟩, ⟨by repeat (first | (with_reducible first | exact HB.out | apply bAl | apply pbD | apply bD1 | refine bSt ?_ GE122.out | refine bSt ?_ GE123.out) | exact HB.out)⟩⟩
  ·
   replace c7 := Bool.eq_false_iff.mpr c7
   subst c7
   have H1 : (check_spoilsA.j0 k false a0_0 a0_1 a0_2 a0_3 a0_4 a1_0 a1_1 a1_2 a1_3 a1_4) = some r := by rw [if_neg (show ¬ (false = true) by decide)] at H; exact H
   clear H
   have H := H1
   clear H1
   have H' := aK H
   clear H
   have hnb14 := NB122_123.out
   have hnc14 := NB123_122.out
   have hcz15_0 : w5.cell? ⟨gb122, 0, none⟩ = some (.int .i64 a0_0) := (kCe BK122.out 0).trans rfl
   have hcz15_1 : w5.cell? ⟨gb122, 1, none⟩ = some (.string a0_1) := (kCe BK122.out 1).trans rfl
   have hcz15_2 : w5.cell? ⟨gb122, 2, none⟩ = some (.string a0_2) := (kCe BK122.out 2).trans rfl
   have hcz15_3 : w5.cell? ⟨gb122, 3, none⟩ = some (.int .i64 a0_3) := (kCe BK122.out 3).trans rfl
   have hcz15_4 : w5.cell? ⟨gb122, 4, none⟩ = some (.int .i64 a0_4) := (kCe BK122.out 4).trans rfl
   go_wp2_with (first | ((with_reducible refine gate_callee (f := 43) rfl ?_); refine goesL_ (some 7) rfl rfl Try.func43 (by kernel_rfl) rfl #[.agg #[.int .i64 a0_0, .string a0_1, .string a0_2, .int .i64 a0_3, .int .i64 a0_4]] rfl (by (try simp only [qM0, qM1, qM2]); first | done | rfl | (simp only [qD0, qD1]; rfl)) ?_; (with_reducible refine (check_kept.calls a0_0 a0_1 a0_2 a0_3 a0_4 false _ A6.out).mono ?_); rintro e w16 ⟨rfl, hb⟩; refine ⟨_, rfl, ?_⟩; have n0_ := aK (kBe (g := gb122) (o := .cells #[.int .i64 a0_0, .string a0_1, .string a0_2, .int .i64 a0_3, .int .i64 a0_4] 23 (0, 0)) (by (with_reducible repeat (first | refine kDN ?_ _ | refine kDr ?_ | refine kAl ?_ _)); exact BK122.out) hb); have n1_ := aK (kBe (g := gb123) (o := .cells #[.int .i64 a1_0, .string a1_1, .string a1_2, .int .i64 a1_3, .int .i64 a1_4] 23 (0, 0)) (by (with_reducible repeat (first | refine kDN ?_ _ | refine kDr ?_ | refine kAl ?_ _)); exact BK123.out) hb); have n2_ := aK (bSp (by repeat (first | (with_reducible first | exact HB.out | apply bAl | apply pbD | apply bD1 | refine bSt ?_ GE122.out | refine bSt ?_ GE123.out) | exact HB.out)) hb); clear BK122; clear BK123; clear HB; have BK122 := n0_; have BK123 := n1_; have HB := n2_; clear n0_ n1_ n2_; (try clear hb); (try clear hb2); (try clear hk); (try clear hi)))
   go_meet
   case rel => exact ⟨_, (false), (by first | rfl | (simp; done) | (simp [*]; done)), H', ⟨by first | omega | exact Nat.le_refl _⟩, ⟨by (with_reducible repeat (first | refine kDN ?_ _ | refine kDr ?_ | refine kAl ?_ _)); exact BK122.out⟩, ⟨by (with_reducible repeat (first | refine kDN ?_ _ | refine kDr ?_ | refine kAl ?_ _)); exact BK123.out⟩, ⟨by repeat (first | (with_reducible first | exact HB.out | apply bAl | apply pbD | apply bD1 | refine bSt ?_ GE122.out | refine bSt ?_ GE123.out) | exact HB.out)⟩⟩
 case rest =>
  clear HC3
  try clear c1
  try clear c2
  try clear p2
  try clear c4
  try clear c7
  try clear c9
  try clear c14
  try clear hcz10_0
  try clear hcz10_1
  try clear hcz10_2
  try clear hcz10_3
  try clear hcz10_4
  try clear hcz12_0
  try clear hcz12_1
  try clear hcz12_2
  try clear hcz12_3
  try clear hcz12_4
  try clear hcz13_0
  try clear hcz13_1
  try clear hcz13_2
  try clear hcz13_3
  try clear hcz13_4
  try clear hcz15_0
  try clear hcz15_1
  try clear hcz15_2
  try clear hcz15_3
  try clear hcz15_4
  obtain ⟨kq, x5_2, rfl, HA, HJ2, BK122, BK123, HB⟩ := hcut
  cases kq with
  | zero => exact absurd HA.out (by simp [check_spoilsA.j0])
  | succ kj2 =>
   have H := HA.out
   clear HA
   simp only [check_spoilsA.j0] at H
   by_cases c17 : x5_2 = true
   ·
    subst c17
    have H1 : (some true) = some r := by rw [if_pos rfl] at H; exact H
    clear H
    have H := H1
    clear H1
    obtain rfl := oI H
    go_wp2
    go_ret
    exact ⟨by first | rfl | (simp [eWn, eWs] <;> rfl) | (simp [*, eWn, eWs] <;> rfl), by repeat (first | (with_reducible first | exact HB.out | apply bAl | apply pbD | apply bD1 | refine bSt ?_ GE122.out | refine bSt ?_ GE123.out) | exact HB.out)⟩
   ·
    replace c17 := Bool.eq_false_iff.mpr c17
    subst c17
    have H1 : (if a0_0 = 8 then (if a1_0 = 5 then ((strings_HasPrefix.f a1_2 a0_2).bind fun t126 => (some t126)) else (some false)) else (some false)) = some r := by rw [if_neg (show ¬ (false = true) by decide)] at H; exact H
    clear H
    have H := H1
    clear H1
    by_cases c18 : a0_0 = 8
    ·
     rw [if_pos c18] at H
     have c18b0 : (a0_0 == 8) = true := beq_iff_eq.mpr c18
     have c18b1 : (a0_0 != 8) = false := bne_eq_false_iff_eq.mpr c18
     clear c18
     by_cases c19 : a1_0 = 5
     ·
      rw [if_pos c19] at H
      have c19b0 : (a1_0 == 5) = true := beq_iff_eq.mpr c19
      have c19b1 : (a1_0 != 5) = false := bne_eq_false_iff_eq.mpr c19
      clear c19
      replace H := oB H
      obtain ⟨t126, A200, H⟩ := H
      replace H : (some t126) = some r := H
      have A20 := aK A200
      clear A200
      obtain rfl := oI H
      have hnb21 := NB122_123.out
      have hnc21 := NB123_122.out
      have hcz22_0 : wc.cell? ⟨gb122, 0, none⟩ = some (.int .i64 a0_0) := (kCe BK122.out 0).trans rfl
      have hcz22_1 : wc.cell? ⟨gb122, 1, none⟩ = some (.string a0_1) := (kCe BK122.out 1).trans rfl
      have hcz22_2 : wc.cell? ⟨gb122, 2, none⟩ = some (.string a0_2) := (kCe BK122.out 2).trans rfl
      have hcz22_3 : wc.cell? ⟨gb122, 3, none⟩ = some (.int .i64 a0_3) := (kCe BK122.out 3).trans rfl
      have hcz22_4 : wc.cell? ⟨gb122, 4, none⟩ = some (.int .i64 a0_4) := (kCe BK122.out 4).trans rfl
      have hcz23_0 : wc.cell? ⟨gb123, 0, none⟩ = some (.int .i64 a1_0) := (kCe BK123.out 0).trans rfl
      have hcz23_1 : wc.cell? ⟨gb123, 1, none⟩ = some (.string a1_1) := (kCe BK123.out 1).trans rfl
      have hcz23_2 : wc.cell? ⟨gb123, 2, none⟩ = some (.string a1_2) := (kCe BK123.out 2).trans rfl
      have hcz23_3 : wc.cell? ⟨gb123, 3, none⟩ = some (.int .i64 a1_3) := (kCe BK123.out 3).trans rfl
      have hcz23_4 : wc.cell? ⟨gb123, 4, none⟩ = some (.int .i64 a1_4) := (kCe BK123.out 4).trans rfl
      go_wp2_with (first | ((with_reducible refine gate_callee (f := 42) rfl ?_); refine goesL_ (some 28) rfl rfl Try.func42 (by kernel_rfl) rfl #[.string a1_2, .string a0_2] rfl (by (try simp only [qM0, qM1, qM2]); first | done | rfl | (simp only [qD0, qD1]; rfl)) ?_; (with_reducible refine (strings_HasPrefix.calls a1_2 a0_2 t126 _ A20.out).mono ?_); rintro e w' ⟨rfl, ⟨nd, rfl⟩⟩; refine ⟨_, rfl, ?_⟩))
      go_ret
      exact ⟨by first | rfl | (simp [eWn, eWs] <;> rfl) | (simp [*, eWn, eWs] <;> rfl), by repeat (first | (with_reducible first | exact HB.out | apply bAl | apply pbD | apply bD1 | refine bSt ?_ GE122.out | refine bSt ?_ GE123.out) | exact HB.out)⟩
     ·
      rw [if_neg c19] at H
      have c19b0 : (a1_0 == 5) = false := beq_eq_false_iff_ne.mpr c19
      have c19b1 : (a1_0 != 5) = true := bne_iff_ne.mpr c19
      obtain rfl := oI H
      have hnb24 := NB122_123.out
      have hnc24 := NB123_122.out
      have hcz25_0 : wc.cell? ⟨gb122, 0, none⟩ = some (.int .i64 a0_0) := (kCe BK122.out 0).trans rfl
      have hcz25_1 : wc.cell? ⟨gb122, 1, none⟩ = some (.string a0_1) := (kCe BK122.out 1).trans rfl
      have hcz25_2 : wc.cell? ⟨gb122, 2, none⟩ = some (.string a0_2) := (kCe BK122.out 2).trans rfl
      have hcz25_3 : wc.cell? ⟨gb122, 3, none⟩ = some (.int .i64 a0_3) := (kCe BK122.out 3).trans rfl
      have hcz25_4 : wc.cell? ⟨gb122, 4, none⟩ = some (.int .i64 a0_4) := (kCe BK122.out 4).trans rfl
      have hcz26_0 : wc.cell? ⟨gb123, 0, none⟩ = some (.int .i64 a1_0) := (kCe BK123.out 0).trans rfl
      have hcz26_1 : wc.cell? ⟨gb123, 1, none⟩ = some (.string a1_1) := (kCe BK123.out 1).trans rfl
      have hcz26_2 : wc.cell? ⟨gb123, 2, none⟩ = some (.string a1_2) := (kCe BK123.out 2).trans rfl
      have hcz26_3 : wc.cell? ⟨gb123, 3, none⟩ = some (.int .i64 a1_3) := (kCe BK123.out 3).trans rfl
      have hcz26_4 : wc.cell? ⟨gb123, 4, none⟩ = some (.int .i64 a1_4) := (kCe BK123.out 4).trans rfl
      go_wp2
      go_ret
      exact ⟨by first | rfl | (simp [eWn, eWs] <;> rfl) | (simp [*, eWn, eWs] <;> rfl), by repeat (first | (with_reducible first | exact HB.out | apply bAl | apply pbD | apply bD1 | refine bSt ?_ GE122.out | refine bSt ?_ GE123.out) | exact HB.out)⟩
    ·
     rw [if_neg c18] at H
     have c18b0 : (a0_0 == 8) = false := beq_eq_false_iff_ne.mpr c18
     have c18b1 : (a0_0 != 8) = true := bne_iff_ne.mpr c18
     obtain rfl := oI H
     have hnb27 := NB122_123.out
     have hnc27 := NB123_122.out
     have hcz28_0 : wc.cell? ⟨gb122, 0, none⟩ = some (.int .i64 a0_0) := (kCe BK122.out 0).trans rfl
     have hcz28_1 : wc.cell? ⟨gb122, 1, none⟩ = some (.string a0_1) := (kCe BK122.out 1).trans rfl
     have hcz28_2 : wc.cell? ⟨gb122, 2, none⟩ = some (.string a0_2) := (kCe BK122.out 2).trans rfl
     have hcz28_3 : wc.cell? ⟨gb122, 3, none⟩ = some (.int .i64 a0_3) := (kCe BK122.out 3).trans rfl
     have hcz28_4 : wc.cell? ⟨gb122, 4, none⟩ = some (.int .i64 a0_4) := (kCe BK122.out 4).trans rfl
     go_wp2
     go_ret
     exact ⟨by first | rfl | (simp [eWn, eWs] <;> rfl) | (simp [*, eWn, eWs] <;> rfl), by repeat (first | (with_reducible first | exact HB.out | apply bAl | apply pbD | apply bD1 | refine bSt ?_ GE122.out | refine bSt ?_ GE123.out) | exact HB.out)⟩
mutual
def check_ClashA.j0 : Nat → Bool → Int → ByteArray → ByteArray → Int → Int → Int → ByteArray → ByteArray → Int → Int → Option (Bool)
 | 0, _, _, _, _, _, _, _, _, _, _, _ => none
 | k + 1, x29, x128000, x128001, x128002, x128003, x128004, x129000, x129001, x129002, x129003, x129004 => if x29 = true then (some true) else (check_ClashA.l0 k 1 x128000 x128001 x128002 x128003 x128004 x129000 x129001 x129002 x129003 x129004)
def check_ClashA.l0 : Nat → Int → Int → ByteArray → ByteArray → Int → Int → Int → ByteArray → ByteArray → Int → Int → Option (Bool)
 | 0, _, _, _, _, _, _, _, _, _, _, _ => none
 | k + 1, x5, x128000, x128001, x128002, x128003, x128004, x129000, x129001, x129002, x129003, x129004 => if x5 ≤ 3 then ((check_In.f k x128000 x128001 x128002 x128003 x128004 x5).bind fun t131 => (if t131 = true then ((check_In.f k x129000 x129001 x129002 x129003 x129004 x5).bind fun t132 => (if t132 = true then ((check_begins.f x128002 x129002).bind fun t133 => (if t133 = true then (some true) else (check_ClashA.l0 k (wrap64 (x5 + 1)) x128000 x128001 x128002 x128003 x128004 x129000 x129001 x129002 x129003 x129004))) else (check_ClashA.l0 k (wrap64 (x5 + 1)) x128000 x128001 x128002 x128003 x128004 x129000 x129001 x129002 x129003 x129004))) else (check_ClashA.l0 k (wrap64 (x5 + 1)) x128000 x128001 x128002 x128003 x128004 x129000 x129001 x129002 x129003 x129004))) else ((check_spoilsA.f k x128000 x128001 x128002 x128003 x128004 x129000 x129001 x129002 x129003 x129004).bind fun t129 => (if t129 = true then (some true) else ((check_spoilsA.f k x129000 x129001 x129002 x129003 x129004 x128000 x128001 x128002 x128003 x128004).bind fun t130 => (some t130))))
end
def check_ClashA.f (k : Nat) (a0_0 : Int) (a0_1 : ByteArray) (a0_2 : ByteArray) (a0_3 : Int) (a0_4 : Int) (a1_0 : Int) (a1_1 : ByteArray) (a1_2 : ByteArray) (a1_3 : Int) (a1_4 : Int) : Option (Bool) := if a0_0 = a1_0 then (if a0_1.toList = a1_1.toList then (check_ClashA.j0 k true a0_0 a0_1 a0_2 a0_3 a0_4 a1_0 a1_1 a1_2 a1_3 a1_4) else (if a0_0 = 5 then (check_ClashA.j0 k (a0_2.toList == a1_2.toList) a0_0 a0_1 a0_2 a0_3 a0_4 a1_0 a1_1 a1_2 a1_3 a1_4) else (check_ClashA.j0 k false a0_0 a0_1 a0_2 a0_3 a0_4 a1_0 a1_1 a1_2 a1_3 a1_4))) else (check_ClashA.j0 k false a0_0 a0_1 a0_2 a0_3 a0_4 a1_0 a1_1 a1_2 a1_3 a1_4)
theorem check_ClashA.mono_l : ∀ k, (∀ y0 y1 y2 y3 y4 y5 y6 y7 y8 y9 y10, LeO (check_ClashA.j0 k y0 y1 y2 y3 y4 y5 y6 y7 y8 y9 y10) (check_ClashA.j0 (k + 1) y0 y1 y2 y3 y4 y5 y6 y7 y8 y9 y10)) ∧ (∀ y0 y1 y2 y3 y4 y5 y6 y7 y8 y9 y10, LeO (check_ClashA.l0 k y0 y1 y2 y3 y4 y5 y6 y7 y8 y9 y10) (check_ClashA.l0 (k + 1) y0 y1 y2 y3 y4 y5 y6 y7 y8 y9 y10))
 | 0 => ⟨fun _ _ _ _ _ _ _ _ _ _ _ r h => by simp [check_ClashA.j0] at h, fun _ _ _ _ _ _ _ _ _ _ _ r h => by simp [check_ClashA.l0] at h⟩
 | k + 1 => by
  obtain ⟨ih0, ih1⟩ := check_ClashA.mono_l k
  refine ⟨?_, ?_⟩
  ·
   intro y0 y1 y2 y3 y4 y5 y6 y7 y8 y9 y10
   unfold check_ClashA.j0
   repeat' first
   | (with_reducible exact ih0 _ _ _ _ _ _ _ _ _ _ _)
   | (with_reducible exact ih1 _ _ _ _ _ _ _ _ _ _ _)
   | (with_reducible exact check_In.mono _ _ _ _ _ _ _)
   | (with_reducible exact check_spoilsA.mono _ _ _ _ _ _ _ _ _ _ _)
   | (with_reducible exact LeO.refl _)
   | (with_reducible exact LeO.none _)
   | (with_reducible refine LeO.ite ?_ ?_)
   | (with_reducible refine LeO.bind ?_ (fun _ => ?_))
   | exact ih0 _ _ _ _ _ _ _ _ _ _ _
   | exact ih1 _ _ _ _ _ _ _ _ _ _ _
   | exact check_In.mono _ _ _ _ _ _ _
   | exact check_spoilsA.mono _ _ _ _ _ _ _ _ _ _ _
   | exact LeO.none _
   | refine LeO.ite ?_ ?_
   | refine LeO.bind ?_ (fun _ => ?_)
  ·
   intro y0 y1 y2 y3 y4 y5 y6 y7 y8 y9 y10
   unfold check_ClashA.l0
   repeat' first
   | (with_reducible exact ih0 _ _ _ _ _ _ _ _ _ _ _)
   | (with_reducible exact ih1 _ _ _ _ _ _ _ _ _ _ _)
   | (with_reducible exact check_In.mono _ _ _ _ _ _ _)
   | (with_reducible exact check_spoilsA.mono _ _ _ _ _ _ _ _ _ _ _)
   | (with_reducible exact LeO.refl _)
   | (with_reducible exact LeO.none _)
   | (with_reducible refine LeO.ite ?_ ?_)
   | (with_reducible refine LeO.bind ?_ (fun _ => ?_))
   | exact ih0 _ _ _ _ _ _ _ _ _ _ _
   | exact ih1 _ _ _ _ _ _ _ _ _ _ _
   | exact check_In.mono _ _ _ _ _ _ _
   | exact check_spoilsA.mono _ _ _ _ _ _ _ _ _ _ _
   | exact LeO.none _
   | refine LeO.ite ?_ ?_
   | refine LeO.bind ?_ (fun _ => ?_)
theorem check_ClashA.mono : ∀ a0 a1 a2 a3 a4 a5 a6 a7 a8 a9 k, LeO (check_ClashA.f k a0 a1 a2 a3 a4 a5 a6 a7 a8 a9) (check_ClashA.f (k + 1) a0 a1 a2 a3 a4 a5 a6 a7 a8 a9) := by
 intro a0 a1 a2 a3 a4 a5 a6 a7 a8 a9 k
 obtain ⟨ih0, ih1⟩ := check_ClashA.mono_l k
 unfold check_ClashA.f
 repeat' first
   | (with_reducible exact ih0 _ _ _ _ _ _ _ _ _ _ _)
   | (with_reducible exact ih1 _ _ _ _ _ _ _ _ _ _ _)
   | (with_reducible exact check_In.mono _ _ _ _ _ _ _)
   | (with_reducible exact check_spoilsA.mono _ _ _ _ _ _ _ _ _ _ _)
   | (with_reducible exact LeO.refl _)
   | (with_reducible exact LeO.none _)
   | (with_reducible refine LeO.ite ?_ ?_)
   | (with_reducible refine LeO.bind ?_ (fun _ => ?_))
   | exact ih0 _ _ _ _ _ _ _ _ _ _ _
   | exact ih1 _ _ _ _ _ _ _ _ _ _ _
   | exact check_In.mono _ _ _ _ _ _ _
   | exact check_spoilsA.mono _ _ _ _ _ _ _ _ _ _ _
   | exact LeO.none _
   | refine LeO.ite ?_ ?_
   | refine LeO.bind ?_ (fun _ => ?_)
set_option maxHeartbeats 8000000 in
set_option maxRecDepth 100000 in
theorem check_ClashA.calls (k : Nat) (a0_0 : Int) (a0_1 : ByteArray) (a0_2 : ByteArray) (a0_3 : Int) (a0_4 : Int) (a1_0 : Int) (a1_1 : ByteArray) (a1_2 : ByteArray) (a1_3 : Int) (a1_4 : Int) (r : Bool) (w : World) (h : check_ClashA.f k a0_0 a0_1 a0_2 a0_3 a0_4 a1_0 a1_1 a1_2 a1_3 a1_4 = some r) (hmx0 : MaxAt w) :
  Calls Try.prog 9 #[.agg #[.int .i64 a0_0, .string a0_1, .string a0_2, .int .i64 a0_3, .int .i64 a0_4], .agg #[.int .i64 a1_0, .string a1_1, .string a1_2, .int .i64 a1_3, .int .i64 a1_4]] w fun e w' => e = .returned (.bool r) ∧ Below w.heap.size w w' := by
 have hmx := aK hmx0
 clear hmx0
 have hu23 := Try.underlying23
 have HB := aK (Below.refl w.heap.size w)
 have H : (if a0_0 = a1_0 then (if a0_1.toList = a1_1.toList then (check_ClashA.j0 k true a0_0 a0_1 a0_2 a0_3 a0_4 a1_0 a1_1 a1_2 a1_3 a1_4) else (if a0_0 = 5 then (check_ClashA.j0 k (a0_2.toList == a1_2.toList) a0_0 a0_1 a0_2 a0_3 a0_4 a1_0 a1_1 a1_2 a1_3 a1_4) else (check_ClashA.j0 k false a0_0 a0_1 a0_2 a0_3 a0_4 a1_0 a1_1 a1_2 a1_3 a1_4))) else (check_ClashA.j0 k false a0_0 a0_1 a0_2 a0_3 a0_4 a1_0 a1_1 a1_2 a1_3 a1_4)) = some r := h
 clear h
 have HC3 := aK H
 clear H
 go_enter Try.func9, Try.ntmps9
 go_upto_region 1 with (first | ((with_reducible refine gate_dst (N := 2) rfl ?_); refine box_event ?hg (N := 2) ?hd (cs := #[.int .i64 a0_0, .string a0_1, .string a0_2, .int .i64 a0_3, .int .i64 a0_4]) (t := 23) ?hr ?_; (case hd => rfl); (case hg => rfl); (case hr => first | (go_simp; done) | (go_simp; rfl)); intro gb127 hg w4 hbox hb; have n0_ := aK (bSp (by repeat (first | (with_reducible first | exact HB.out | apply bAl | apply pbD | apply bD1) | exact HB.out)) hb); have n1_ := aK (hbox); have n2_ := aK ((by rw [hg]; exact (bSz (by repeat (first | (with_reducible first | exact HB.out | apply bAl | apply pbD | apply bD1) | exact HB.out))) : w.heap.size ≤ gb127)); have n3_ := aK ((by rw [hg]; exact (bSz (by repeat (first | (with_reducible first | exact HB.out | apply bAl | apply pbD | apply bD1) | exact HB.out))) : w.heap.size ≤ gb127)); clear HB; have HB := n0_; have BK127 := n1_; have GW127 := n2_; have GE127 := n3_; clear n0_ n1_ n2_ n3_; clear hb hbox hg) | ((with_reducible refine gate_dst (N := 3) rfl ?_); refine box_event ?hg (N := 3) ?hd (cs := #[.int .i64 a1_0, .string a1_1, .string a1_2, .int .i64 a1_3, .int .i64 a1_4]) (t := 23) ?hr ?_; (case hd => rfl); (case hg => rfl); (case hr => first | (go_simp; done) | (go_simp; rfl)); intro gb128 hg w5 hbox hb; have n0_ := aK (kBe (g := gb127) (o := .cells #[.int .i64 a0_0, .string a0_1, .string a0_2, .int .i64 a0_3, .int .i64 a0_4] 23 (0, 0)) (by (with_reducible repeat (first | refine kDN ?_ _ | refine kDr ?_ | refine kAl ?_ _)); exact BK127.out) hb); have n1_ := aK (bSp (by repeat (first | (with_reducible first | exact HB.out | apply bAl | apply pbD | apply bD1 | refine bSt ?_ GE127.out) | exact HB.out)) hb); have n2_ := aK (hbox); have n3_ := aK ((by rw [hg]; exact (bSz (by repeat (first | (with_reducible first | exact HB.out | apply bAl | apply pbD | apply bD1 | refine bSt ?_ GE127.out) | exact HB.out))) : w.heap.size ≤ gb128)); have n4_ := aK ((by rw [hg]; exact (bSz (by repeat (first | (with_reducible first | exact HB.out | apply bAl | apply pbD | apply bD1 | refine bSt ?_ GE127.out) | exact HB.out))) : w.heap.size ≤ gb128)); have n5_ := aK ((by rw [hg]; exact Nat.ne_of_lt (blk_lt (g := gb127) (o := .cells #[.int .i64 a0_0, .string a0_1, .string a0_2, .int .i64 a0_3, .int .i64 a0_4] 23 (0, 0)) (by (with_reducible repeat (first | refine kDN ?_ _ | refine kDr ?_ | refine kAl ?_ _)); exact BK127.out)) : gb127 ≠ gb128)); have n6_ := aK ((by rw [hg]; exact Nat.ne_of_gt (blk_lt (g := gb127) (o := .cells #[.int .i64 a0_0, .string a0_1, .string a0_2, .int .i64 a0_3, .int .i64 a0_4] 23 (0, 0)) (by (with_reducible repeat (first | refine kDN ?_ _ | refine kDr ?_ | refine kAl ?_ _)); exact BK127.out)) : gb128 ≠ gb127)); clear BK127; clear HB; have BK127 := n0_; have HB := n1_; have BK128 := n2_; have GW128 := n3_; have GE128 := n4_; have NB127_128 := n5_; have NB128_127 := n6_; clear n0_ n1_ n2_ n3_ n4_ n5_ n6_; clear hb hbox hg))
 (try simp only [Act.put, qSa, qS0, qS1])
 go_cut [29] (fun v29 wc => ∃ (kq : Nat) (x29_2 : Bool), v29 = .bool x29_2 ∧ Aside0 (check_ClashA.j0 kq x29_2 a0_0 a0_1 a0_2 a0_3 a0_4 a1_0 a1_1 a1_2 a1_3 a1_4 = some r) ∧ Aside0 (kq ≤ k) ∧ Aside0 (wc.heap[gb127]? = some (.cells #[.int .i64 a0_0, .string a0_1, .string a0_2, .int .i64 a0_3, .int .i64 a0_4] 23 (0, 0))) ∧ Aside0 (wc.heap[gb128]? = some (.cells #[.int .i64 a1_0, .string a1_1, .string a1_2, .int .i64 a1_3, .int .i64 a1_4] 23 (0, 0))) ∧ Aside0 (Below w.heap.size w wc))
 case first =>
  have H := HC3.out
  clear HC3
  by_cases c6 : a0_0 = a1_0
  ·
   rw [if_pos c6] at H
   have c6b0 : (a0_0 == a1_0) = true := beq_iff_eq.mpr c6
   have c6b1 : (a0_0 != a1_0) = false := bne_eq_false_iff_eq.mpr c6
   clear c6
   (first | rw [c6b0] | (simp only [i64_w, i32_w]; rw [c6b0]) | skip)
   by_cases c7 : a0_1.toList = a1_1.toList
   ·
    rw [if_pos c7] at H
    have c7b0 : (a0_1.toList == a1_1.toList) = true := beq_iff_eq.mpr c7
    have c7b1 : (a0_1.toList != a1_1.toList) = false := bne_eq_false_iff_eq.mpr c7
    clear c7
    have H' := aK H
    clear H
    have hnb8 := NB127_128.out
    have hnc8 := NB128_127.out
    have hcz9_0 : w5.cell? ⟨gb127, 0, none⟩ = some (.int .i64 a0_0) := (kCe BK127.out 0).trans rfl
    have hcz9_1 : w5.cell? ⟨gb127, 1, none⟩ = some (.string a0_1) := (kCe BK127.out 1).trans rfl
    have hcz9_2 : w5.cell? ⟨gb127, 2, none⟩ = some (.string a0_2) := (kCe BK127.out 2).trans rfl
    have hcz9_3 : w5.cell? ⟨gb127, 3, none⟩ = some (.int .i64 a0_3) := (kCe BK127.out 3).trans rfl
    have hcz9_4 : w5.cell? ⟨gb127, 4, none⟩ = some (.int .i64 a0_4) := (kCe BK127.out 4).trans rfl
    have hcz10_0 : w5.cell? ⟨gb128, 0, none⟩ = some (.int .i64 a1_0) := (kCe BK128.out 0).trans rfl
    have hcz10_1 : w5.cell? ⟨gb128, 1, none⟩ = some (.string a1_1) := (kCe BK128.out 1).trans rfl
    have hcz10_2 : w5.cell? ⟨gb128, 2, none⟩ = some (.string a1_2) := (kCe BK128.out 2).trans rfl
    have hcz10_3 : w5.cell? ⟨gb128, 3, none⟩ = some (.int .i64 a1_3) := (kCe BK128.out 3).trans rfl
    have hcz10_4 : w5.cell? ⟨gb128, 4, none⟩ = some (.int .i64 a1_4) := (kCe BK128.out 4).trans rfl
    go_wp2
    go_meet
    case rel => exact ⟨_, (true), (by first | rfl | (simp; done) | (simp [*]; done)), H', ⟨by first | omega | exact Nat.le_refl _⟩, ⟨by (with_reducible repeat (first | refine kDN ?_ _ | refine kDr ?_ | refine kAl ?_ _)); exact BK127.out⟩, ⟨by (with_reducible repeat (first | refine kDN ?_ _ | refine kDr ?_ | refine kAl ?_ _)); exact BK128.out⟩, ⟨by repeat (first | (with_reducible first | exact HB.out | apply bAl | apply pbD | apply bD1 | refine bSt ?_ GE127.out | refine bSt ?_ GE128.out) | exact HB.out)⟩⟩
   ·
    rw [if_neg c7] at H
    have c7b0 : (a0_1.toList == a1_1.toList) = false := beq_eq_false_iff_ne.mpr c7
    have c7b1 : (a0_1.toList != a1_1.toList) = true := bne_iff_ne.mpr c7
    by_cases c11 : a0_0 = 5
    ·
     rw [if_pos c11] at H
     have c11b0 : (a0_0 == 5) = true := beq_iff_eq.mpr c11
     have c11b1 : (a0_0 != 5) = false := bne_eq_false_iff_eq.mpr c11
     clear c11
     have H' := aK H
     clear H
     have hnb12 := NB127_128.out
     have hnc12 := NB128_127.out
     have hcz13_0 : w5.cell? ⟨gb127, 0, none⟩ = some (.int .i64 a0_0) := (kCe BK127.out 0).trans rfl
     have hcz13_1 : w5.cell? ⟨gb127, 1, none⟩ = some (.string a0_1) := (kCe BK127.out 1).trans rfl
     have hcz13_2 : w5.cell? ⟨gb127, 2, none⟩ = some (.string a0_2) := (kCe BK127.out 2).trans rfl
     have hcz13_3 : w5.cell? ⟨gb127, 3, none⟩ = some (.int .i64 a0_3) := (kCe BK127.out 3).trans rfl
     have hcz13_4 : w5.cell? ⟨gb127, 4, none⟩ = some (.int .i64 a0_4) := (kCe BK127.out 4).trans rfl
     have hcz14_0 : w5.cell? ⟨gb128, 0, none⟩ = some (.int .i64 a1_0) := (kCe BK128.out 0).trans rfl
     have hcz14_1 : w5.cell? ⟨gb128, 1, none⟩ = some (.string a1_1) := (kCe BK128.out 1).trans rfl
     have hcz14_2 : w5.cell? ⟨gb128, 2, none⟩ = some (.string a1_2) := (kCe BK128.out 2).trans rfl
     have hcz14_3 : w5.cell? ⟨gb128, 3, none⟩ = some (.int .i64 a1_3) := (kCe BK128.out 3).trans rfl
     have hcz14_4 : w5.cell? ⟨gb128, 4, none⟩ = some (.int .i64 a1_4) := (kCe BK128.out 4).trans rfl
     go_wp2
     go_meet
     case rel => exact ⟨_, ((a0_2.toList == a1_2.toList)), (by first | rfl | (simp; done) | (simp [*]; done)), H', ⟨by first | omega | exact Nat.le_refl _⟩, ⟨by (with_reducible repeat (first | refine kDN ?_ _ | refine kDr ?_ | refine kAl ?_ _)); exact BK127.out⟩, ⟨by (with_reducible repeat (first | refine kDN ?_ _ | refine kDr ?_ | refine kAl ?_ _)); exact BK128.out⟩, ⟨by repeat (first | (with_reducible first | exact HB.out | apply bAl | apply pbD | apply bD1 | refine bSt ?_ GE127.out | refine bSt ?_ GE128.out) | exact HB.out)⟩⟩
    ·
     rw [if_neg c11] at H
     have c11b0 : (a0_0 == 5) = false := beq_eq_false_iff_ne.mpr c11
     have c11b1 : (a0_0 != 5) = true := bne_iff_ne.mpr c11
     have H' := aK H
     clear H
     have hnb15 := NB127_128.out
     have hnc15 := NB128_127.out
     have hcz16_0 : w5.cell? ⟨gb127, 0, none⟩ = some (.int .i64 a0_0) := (kCe BK127.out 0).trans rfl
     have hcz16_1 : w5.cell? ⟨gb127, 1, none⟩ = some (.string a0_1) := (kCe BK127.out 1).trans rfl
     have hcz16_2 : w5.cell? ⟨gb127, 2, none⟩ = some (.string a0_2) := (kCe BK127.out 2).trans rfl
     have hcz16_3 : w5.cell? ⟨gb127, 3, none⟩ = some (.int .i64 a0_3) := (kCe BK127.out 3).trans rfl
     have hcz16_4 : w5.cell? ⟨gb127, 4, none⟩ = some (.int .i64 a0_4) := (kCe BK127.out 4).trans rfl
     have hcz17_0 : w5.cell? ⟨gb128, 0, none⟩ = some (.int .i64 a1_0) := (kCe BK128.out 0).trans rfl
     have hcz17_1 : w5.cell? ⟨gb128, 1, none⟩ = some (.string a1_1) := (kCe BK128.out 1).trans rfl
     have hcz17_2 : w5.cell? ⟨gb128, 2, none⟩ = some (.string a1_2) := (kCe BK128.out 2).trans rfl
     have hcz17_3 : w5.cell? ⟨gb128, 3, none⟩ = some (.int .i64 a1_3) := (kCe BK128.out 3).trans rfl
     have hcz17_4 : w5.cell? ⟨gb128, 4, none⟩ = some (.int .i64 a1_4) := (kCe BK128.out 4).trans rfl
     go_wp2
     go_meet
     case rel => exact ⟨_, (false), (by first | rfl | (simp; done) | (simp [*]; done)), H', ⟨by first | omega | exact Nat.le_refl _⟩, ⟨by (with_reducible repeat (first | refine kDN ?_ _ | refine kDr ?_ | refine kAl ?_ _)); exact BK127.out⟩, ⟨by (with_reducible repeat (first | refine kDN ?_ _ | refine kDr ?_ | refine kAl ?_ _)); exact BK128.out⟩, ⟨by repeat (first | (with_reducible first | exact HB.out | apply bAl | apply pbD | apply bD1 | refine bSt ?_ GE127.out | refine bSt ?_ GE128.out) | exact HB.out)⟩⟩
  ·
   rw [if_neg c6] at H
   have c6b0 : (a0_0 == a1_0) = false := beq_eq_false_iff_ne.mpr c6
   have c6b1 : (a0_0 != a1_0) = true := bne_iff_ne.mpr c6
   (first | rw [c6b0] | (simp only [i64_w, i32_w]; rw [c6b0]) | skip)
   have H' := aK H
   clear H
   have hnb18 := NB127_128.out
   have hnc18 := NB128_127.out
   have hcz19_0 : w5.cell? ⟨gb127, 0, none⟩ = some (.int .i64 a0_0) := (kCe BK127.out 0).trans rfl
   have hcz19_1 : w5.cell? ⟨gb127, 1, none⟩ = some (.string a0_1) := (kCe BK127.out 1).trans rfl
   have hcz19_2 : w5.cell? ⟨gb127, 2, none⟩ = some (.string a0_2) := (kCe BK127.out 2).trans rfl
   have hcz19_3 : w5.cell? ⟨gb127, 3, none⟩ = some (.int .i64 a0_3) := (kCe BK127.out 3).trans rfl
   have hcz19_4 : w5.cell? ⟨gb127, 4, none⟩ = some (.int .i64 a0_4) := (kCe BK127.out 4).trans rfl
   have hcz20_0 : w5.cell? ⟨gb128, 0, none⟩ = some (.int .i64 a1_0) := (kCe BK128.out 0).trans rfl
   have hcz20_1 : w5.cell? ⟨gb128, 1, none⟩ = some (.string a1_1) := (kCe BK128.out 1).trans rfl
   have hcz20_2 : w5.cell? ⟨gb128, 2, none⟩ = some (.string a1_2) := (kCe BK128.out 2).trans rfl
   have hcz20_3 : w5.cell? ⟨gb128, 3, none⟩ = some (.int .i64 a1_3) := (kCe BK128.out 3).trans rfl
   have hcz20_4 : w5.cell? ⟨gb128, 4, none⟩ = some (.int .i64 a1_4) := (kCe BK128.out 4).trans rfl
   go_wp2
   go_meet
   case rel => exact ⟨_, (false), (by first | rfl | (simp; done) | (simp [*]; done)), H', ⟨by first | omega | exact Nat.le_refl _⟩, ⟨by (with_reducible repeat (first | refine kDN ?_ _ | refine kDr ?_ | refine kAl ?_ _)); exact BK127.out⟩, ⟨by (with_reducible repeat (first | refine kDN ?_ _ | refine kDr ?_ | refine kAl ?_ _)); exact BK128.out⟩, ⟨by repeat (first | (with_reducible first | exact HB.out | apply bAl | apply pbD | apply bD1 | refine bSt ?_ GE127.out | refine bSt ?_ GE128.out) | exact HB.out)⟩⟩
 case rest =>
  clear HC3
  try clear c1
  try clear p2
  try clear c6
  try clear c6b0
  try clear c6b1
  try clear c7
  try clear c7b0
  try clear c7b1
  try clear c8
  try clear c9
  try clear c11
  try clear c11b0
  try clear c11b1
  try clear c12
  try clear c15
  try clear c18
  try clear hcz10_0
  try clear hcz10_1
  try clear hcz10_2
  try clear hcz10_3
  try clear hcz10_4
  try clear hcz13_0
  try clear hcz13_1
  try clear hcz13_2
  try clear hcz13_3
  try clear hcz13_4
  try clear hcz14_0
  try clear hcz14_1
  try clear hcz14_2
  try clear hcz14_3
  try clear hcz14_4
  try clear hcz16_0
  try clear hcz16_1
  try clear hcz16_2
  try clear hcz16_3
  try clear hcz16_4
  try clear hcz17_0
  try clear hcz17_1
  try clear hcz17_2
  try clear hcz17_3
  try clear hcz17_4
  try clear hcz19_0
  try clear hcz19_1
  try clear hcz19_2
  try clear hcz19_3
  try clear hcz19_4
  try clear hcz20_0
  try clear hcz20_1
  try clear hcz20_2
  try clear hcz20_3
  try clear hcz20_4
  try clear hcz9_0
  try clear hcz9_1
  try clear hcz9_2
  try clear hcz9_3
  try clear hcz9_4
  obtain ⟨kq, x29_2, rfl, HA, HJ2, BK127, BK128, HB⟩ := hcut
  cases kq with
  | zero => exact absurd HA.out (by simp [check_ClashA.j0])
  | succ kj2 =>
   have H := HA.out
   clear HA
   simp only [check_ClashA.j0] at H
   by_cases c21 : x29_2 = true
   ·
    subst c21
    have H1 : (some true) = some r := by rw [if_pos rfl] at H; exact H
    clear H
    have H := H1
    clear H1
    obtain rfl := oI H
    go_wp2
    go_ret
    exact ⟨by first | rfl | (simp [eWn, eWs] <;> rfl) | (simp [*, eWn, eWs] <;> rfl), by repeat (first | (with_reducible first | exact HB.out | apply bAl | apply pbD | apply bD1 | refine bSt ?_ GE127.out | refine bSt ?_ GE128.out) | exact HB.out)⟩
   ·
    replace c21 := Bool.eq_false_iff.mpr c21
    subst c21
    have H1 : (check_ClashA.l0 kj2 1 a0_0 a0_1 a0_2 a0_3 a0_4 a1_0 a1_1 a1_2 a1_3 a1_4) = some r := by rw [if_neg (show ¬ (false = true) by decide)] at H; exact H
    clear H
    have H := H1
    clear H1
    have H' := aK H
    clear H
    go_wp2
    go_loopg [5] kj2 (fun kq v5 w' => ∃ (x5_2 : Int), v5 = .int .i64 x5_2 ∧ Aside0 (check_ClashA.l0 kq x5_2 a0_0 a0_1 a0_2 a0_3 a0_4 a1_0 a1_1 a1_2 a1_3 a1_4 = some r) ∧ Aside0 (kq ≤ kj2) ∧ Aside0 (w'.heap[gb127]? = some (.cells #[.int .i64 a0_0, .string a0_1, .string a0_2, .int .i64 a0_3, .int .i64 a0_4] 23 (0, 0))) ∧ Aside0 (w'.heap[gb128]? = some (.cells #[.int .i64 a1_0, .string a1_1, .string a1_2, .int .i64 a1_3, .int .i64 a1_4] 23 (0, 0))) ∧ Aside0 (Below w.heap.size w w'))
    case atStart => exact ⟨(1), (by first | rfl | (simp; done) | (simp [*]; done)), H', ⟨Nat.le_refl _⟩, ⟨by (with_reducible repeat (first | refine kDN ?_ _ | refine kDr ?_ | refine kAl ?_ _)); exact BK127.out⟩, ⟨by (with_reducible repeat (first | refine kDN ?_ _ | refine kDr ?_ | refine kAl ?_ _)); exact BK128.out⟩, ⟨by repeat (first | (with_reducible first | exact HB.out | apply bAl | apply pbD | apply bD1 | refine bSt ?_ GE127.out | refine bSt ?_ GE128.out) | exact HB.out)⟩⟩
    case round =>
     clear H'
     try clear c1
     try clear c2
     try clear p2
     try clear c6
     try clear c6b0
     try clear c6b1
     try clear c7
     try clear c7b0
     try clear c7b1
     try clear c8
     try clear c9
     try clear c11
     try clear c11b0
     try clear c11b1
     try clear c12
     try clear c15
     try clear c18
     try clear c21
     try clear hcz10_0
     try clear hcz10_1
     try clear hcz10_2
     try clear hcz10_3
     try clear hcz10_4
     try clear hcz13_0
     try clear hcz13_1
     try clear hcz13_2
     try clear hcz13_3
     try clear hcz13_4
     try clear hcz14_0
     try clear hcz14_1
     try clear hcz14_2
     try clear hcz14_3
     try clear hcz14_4
     try clear hcz16_0
     try clear hcz16_1
     try clear hcz16_2
     try clear hcz16_3
     try clear hcz16_4
     try clear hcz17_0
     try clear hcz17_1
     try clear hcz17_2
     try clear hcz17_3
     try clear hcz17_4
     try clear hcz19_0
     try clear hcz19_1
     try clear hcz19_2
     try clear hcz19_3
     try clear hcz19_4
     try clear hcz20_0
     try clear hcz20_1
     try clear hcz20_2
     try clear hcz20_3
     try clear hcz20_4
     try clear hcz9_0
     try clear hcz9_1
     try clear hcz9_2
     try clear hcz9_3
     try clear hcz9_4
     try clear p2
     obtain ⟨x5_2, rfl, HA, HK2, BK127, BK128, HB⟩ := hrel
     cases gk with
     | zero => exact absurd HA.out (by simp [check_ClashA.l0])
     | succ k2 =>
      have H := HA.out
      clear HA
      simp only [check_ClashA.l0] at H
      by_cases c22 : x5_2 ≤ 3
      ·
       rw [if_pos c22] at H
       have c22b0 : decide (x5_2 ≤ 3) = true := decide_eq_true c22
       clear c22
       replace H := oB H
       obtain ⟨t131, A230, H⟩ := H
       try dsimp only at H
       have A23 := aK A230
       clear A230
       by_cases c24 : t131 = true
       ·
        subst c24
        have H1 : ((check_In.f k2 a1_0 a1_1 a1_2 a1_3 a1_4 x5_2).bind fun t132 => (if t132 = true then ((check_begins.f a0_2 a1_2).bind fun t133 => (if t133 = true then (some true) else (check_ClashA.l0 k2 (wrap64 (x5_2 + 1)) a0_0 a0_1 a0_2 a0_3 a0_4 a1_0 a1_1 a1_2 a1_3 a1_4))) else (check_ClashA.l0 k2 (wrap64 (x5_2 + 1)) a0_0 a0_1 a0_2 a0_3 a0_4 a1_0 a1_1 a1_2 a1_3 a1_4))) = some r := by rw [if_pos rfl] at H; exact H
        clear H
        have H := H1
        clear H1
        replace H := oB H
        obtain ⟨t132, A250, H⟩ := H
        try dsimp only at H
        have A25 := aK A250
        clear A250
        by_cases c26 : t132 = true
        ·
         subst c26
         have H1 : ((check_begins.f a0_2 a1_2).bind fun t133 => (if t133 = true then (some true) else (check_ClashA.l0 k2 (wrap64 (x5_2 + 1)) a0_0 a0_1 a0_2 a0_3 a0_4 a1_0 a1_1 a1_2 a1_3 a1_4))) = some r := by rw [if_pos rfl] at H; exact H
         clear H
         have H := H1
         clear H1
         replace H := oB H
         obtain ⟨t133, A270, H⟩ := H
         try dsimp only at H
         have A27 := aK A270
         clear A270
         by_cases c28 : t133 = true
         ·
          subst c28
          have H1 : (some true) = some r := by rw [if_pos rfl] at H; exact H
          clear H
          have H := H1
          clear H1
          obtain rfl := oI H
          have hnb29 := NB127_128.out
          have hnc29 := NB128_127.out
          have hcz30_0 : wr.cell? ⟨gb127, 0, none⟩ = some (.int .i64 a0_0) := (kCe BK127.out 0).trans rfl
          have hcz30_1 : wr.cell? ⟨gb127, 1, none⟩ = some (.string a0_1) := (kCe BK127.out 1).trans rfl
          have hcz30_2 : wr.cell? ⟨gb127, 2, none⟩ = some (.string a0_2) := (kCe BK127.out 2).trans rfl
          have hcz30_3 : wr.cell? ⟨gb127, 3, none⟩ = some (.int .i64 a0_3) := (kCe BK127.out 3).trans rfl
          have hcz30_4 : wr.cell? ⟨gb127, 4, none⟩ = some (.int .i64 a0_4) := (kCe BK127.out 4).trans rfl
          go_wp2_with (first | ((with_reducible refine gate_callee (f := 13) rfl ?_); refine goesL_ (some 36) rfl rfl Try.func13 (by kernel_rfl) rfl #[.agg #[.int .i64 a0_0, .string a0_1, .string a0_2, .int .i64 a0_3, .int .i64 a0_4], .int .i64 x5_2] rfl (by (try simp only [qM0, qM1, qM2]); first | done | rfl | (simp only [qD0, qD1]; rfl)) ?_; (with_reducible refine (check_In.calls k2 a0_0 a0_1 a0_2 a0_3 a0_4 x5_2 true _ A23.out).mono ?_); rintro e w31 ⟨rfl, hb⟩; refine ⟨_, rfl, ?_⟩; have n0_ := aK (kBe (g := gb127) (o := .cells #[.int .i64 a0_0, .string a0_1, .string a0_2, .int .i64 a0_3, .int .i64 a0_4] 23 (0, 0)) (by (with_reducible repeat (first | refine kDN ?_ _ | refine kDr ?_ | refine kAl ?_ _)); exact BK127.out) hb); have n1_ := aK (kBe (g := gb128) (o := .cells #[.int .i64 a1_0, .string a1_1, .string a1_2, .int .i64 a1_3, .int .i64 a1_4] 23 (0, 0)) (by (with_reducible repeat (first | refine kDN ?_ _ | refine kDr ?_ | refine kAl ?_ _)); exact BK128.out) hb); have n2_ := aK (bSp (by repeat (first | (with_reducible first | exact HB.out | apply bAl | apply pbD | apply bD1 | refine bSt ?_ GE127.out | refine bSt ?_ GE128.out) | exact HB.out)) hb); clear BK127; clear BK128; clear HB; have BK127 := n0_; have BK128 := n1_; have HB := n2_; clear n0_ n1_ n2_; (try clear hb); (try clear hb2); (try clear hk); (try clear hi); have hcz32_0 : w31.cell? ⟨gb128, 0, none⟩ = some (.int .i64 a1_0) := (kCe BK128.out 0).trans rfl; have hcz32_1 : w31.cell? ⟨gb128, 1, none⟩ = some (.string a1_1) := (kCe BK128.out 1).trans rfl; have hcz32_2 : w31.cell? ⟨gb128, 2, none⟩ = some (.string a1_2) := (kCe BK128.out 2).trans rfl; have hcz32_3 : w31.cell? ⟨gb128, 3, none⟩ = some (.int .i64 a1_3) := (kCe BK128.out 3).trans rfl; have hcz32_4 : w31.cell? ⟨gb128, 4, none⟩ = some (.int .i64 a1_4) := (kCe BK128.out 4).trans rfl) | (go_at_call 13; (with_reducible refine (check_In.calls k2 a1_0 a1_1 a1_2 a1_3 a1_4 x5_2 true _ A25.out).mono ?_); rintro e w33 ⟨rfl, hb⟩; have n0_ := aK (kBe (g := gb127) (o := .cells #[.int .i64 a0_0, .string a0_1, .string a0_2, .int .i64 a0_3, .int .i64 a0_4] 23 (0, 0)) (by (with_reducible repeat (first | refine kDN ?_ _ | refine kDr ?_ | refine kAl ?_ _)); exact BK127.out) hb); have n1_ := aK (kBe (g := gb128) (o := .cells #[.int .i64 a1_0, .string a1_1, .string a1_2, .int .i64 a1_3, .int .i64 a1_4] 23 (0, 0)) (by (with_reducible repeat (first | refine kDN ?_ _ | refine kDr ?_ | refine kAl ?_ _)); exact BK128.out) hb); have n2_ := aK (bSp (by repeat (first | (with_reducible first | exact HB.out | apply bAl | apply pbD | apply bD1 | refine bSt ?_ GE127.out | refine bSt ?_ GE128.out) | exact HB.out)) hb); clear BK127; clear BK128; clear HB; have BK127 := n0_; have BK128 := n1_; have HB := n2_; clear n0_ n1_ n2_; (try clear hb); (try clear hb2); (try clear hk); (try clear hi); have hcz34_0 : w33.cell? ⟨gb127, 0, none⟩ = some (.int .i64 a0_0) := (kCe BK127.out 0).trans rfl; have hcz34_1 : w33.cell? ⟨gb127, 1, none⟩ = some (.string a0_1) := (kCe BK127.out 1).trans rfl; have hcz34_2 : w33.cell? ⟨gb127, 2, none⟩ = some (.string a0_2) := (kCe BK127.out 2).trans rfl; have hcz34_3 : w33.cell? ⟨gb127, 3, none⟩ = some (.int .i64 a0_3) := (kCe BK127.out 3).trans rfl; have hcz34_4 : w33.cell? ⟨gb127, 4, none⟩ = some (.int .i64 a0_4) := (kCe BK127.out 4).trans rfl; have hcz35_0 : w33.cell? ⟨gb128, 0, none⟩ = some (.int .i64 a1_0) := (kCe BK128.out 0).trans rfl; have hcz35_1 : w33.cell? ⟨gb128, 1, none⟩ = some (.string a1_1) := (kCe BK128.out 1).trans rfl; have hcz35_2 : w33.cell? ⟨gb128, 2, none⟩ = some (.string a1_2) := (kCe BK128.out 2).trans rfl; have hcz35_3 : w33.cell? ⟨gb128, 3, none⟩ = some (.int .i64 a1_3) := (kCe BK128.out 3).trans rfl; have hcz35_4 : w33.cell? ⟨gb128, 4, none⟩ = some (.int .i64 a1_4) := (kCe BK128.out 4).trans rfl) | (go_at_call 23; (with_reducible refine (check_begins.calls a0_2 a1_2 true _ A27.out).mono ?_); rintro e w' ⟨rfl, ⟨nd, rfl⟩⟩))
          go_ret
          exact ⟨by first | rfl | (simp [eWn, eWs] <;> rfl) | (simp [*, eWn, eWs] <;> rfl), by repeat (first | (with_reducible first | exact HB.out | apply bAl | apply pbD | apply bD1 | refine bSt ?_ GE127.out | refine bSt ?_ GE128.out) | exact HB.out)⟩
         ·
          replace c28 := Bool.eq_false_iff.mpr c28
          subst c28
          have H1 : (check_ClashA.l0 k2 (wrap64 (x5_2 + 1)) a0_0 a0_1 a0_2 a0_3 a0_4 a1_0 a1_1 a1_2 a1_3 a1_4) = some r := by rw [if_neg (show ¬ (false = true) by decide)] at H; exact H
          clear H
          have H := H1
          clear H1
          have H' := aK H
          clear H
          have hnb36 := NB127_128.out
          have hnc36 := NB128_127.out
          have hcz37_0 : wr.cell? ⟨gb127, 0, none⟩ = some (.int .i64 a0_0) := (kCe BK127.out 0).trans rfl
          have hcz37_1 : wr.cell? ⟨gb127, 1, none⟩ = some (.string a0_1) := (kCe BK127.out 1).trans rfl
          have hcz37_2 : wr.cell? ⟨gb127, 2, none⟩ = some (.string a0_2) := (kCe BK127.out 2).trans rfl
          have hcz37_3 : wr.cell? ⟨gb127, 3, none⟩ = some (.int .i64 a0_3) := (kCe BK127.out 3).trans rfl
          have hcz37_4 : wr.cell? ⟨gb127, 4, none⟩ = some (.int .i64 a0_4) := (kCe BK127.out 4).trans rfl
          go_wp2_with (first | ((with_reducible refine gate_callee (f := 13) rfl ?_); refine goesL_ (some 36) rfl rfl Try.func13 (by kernel_rfl) rfl #[.agg #[.int .i64 a0_0, .string a0_1, .string a0_2, .int .i64 a0_3, .int .i64 a0_4], .int .i64 x5_2] rfl (by (try simp only [qM0, qM1, qM2]); first | done | rfl | (simp only [qD0, qD1]; rfl)) ?_; (with_reducible refine (check_In.calls k2 a0_0 a0_1 a0_2 a0_3 a0_4 x5_2 true _ A23.out).mono ?_); rintro e w38 ⟨rfl, hb⟩; refine ⟨_, rfl, ?_⟩; have n0_ := aK (kBe (g := gb127) (o := .cells #[.int .i64 a0_0, .string a0_1, .string a0_2, .int .i64 a0_3, .int .i64 a0_4] 23 (0, 0)) (by (with_reducible repeat (first | refine kDN ?_ _ | refine kDr ?_ | refine kAl ?_ _)); exact BK127.out) hb); have n1_ := aK (kBe (g := gb128) (o := .cells #[.int .i64 a1_0, .string a1_1, .string a1_2, .int .i64 a1_3, .int .i64 a1_4] 23 (0, 0)) (by (with_reducible repeat (first | refine kDN ?_ _ | refine kDr ?_ | refine kAl ?_ _)); exact BK128.out) hb); have n2_ := aK (bSp (by repeat (first | (with_reducible first | exact HB.out | apply bAl | apply pbD | apply bD1 | refine bSt ?_ GE127.out | refine bSt ?_ GE128.out) | exact HB.out)) hb); clear BK127; clear BK128; clear HB; have BK127 := n0_; have BK128 := n1_; have HB := n2_; clear n0_ n1_ n2_; (try clear hb); (try clear hb2); (try clear hk); (try clear hi); have hcz39_0 : w38.cell? ⟨gb128, 0, none⟩ = some (.int .i64 a1_0) := (kCe BK128.out 0).trans rfl; have hcz39_1 : w38.cell? ⟨gb128, 1, none⟩ = some (.string a1_1) := (kCe BK128.out 1).trans rfl; have hcz39_2 : w38.cell? ⟨gb128, 2, none⟩ = some (.string a1_2) := (kCe BK128.out 2).trans rfl; have hcz39_3 : w38.cell? ⟨gb128, 3, none⟩ = some (.int .i64 a1_3) := (kCe BK128.out 3).trans rfl; have hcz39_4 : w38.cell? ⟨gb128, 4, none⟩ = some (.int .i64 a1_4) := (kCe BK128.out 4).trans rfl) | (go_at_call 13; (with_reducible refine (check_In.calls k2 a1_0 a1_1 a1_2 a1_3 a1_4 x5_2 true _ A25.out).mono ?_); rintro e w40 ⟨rfl, hb⟩; have n0_ := aK (kBe (g := gb127) (o := .cells #[.int .i64 a0_0, .string a0_1, .string a0_2, .int .i64 a0_3, .int .i64 a0_4] 23 (0, 0)) (by (with_reducible repeat (first | refine kDN ?_ _ | refine kDr ?_ | refine kAl ?_ _)); exact BK127.out) hb); have n1_ := aK (kBe (g := gb128) (o := .cells #[.int .i64 a1_0, .string a1_1, .string a1_2, .int .i64 a1_3, .int .i64 a1_4] 23 (0, 0)) (by (with_reducible repeat (first | refine kDN ?_ _ | refine kDr ?_ | refine kAl ?_ _)); exact BK128.out) hb); have n2_ := aK (bSp (by repeat (first | (with_reducible first | exact HB.out | apply bAl | apply pbD | apply bD1 | refine bSt ?_ GE127.out | refine bSt ?_ GE128.out) | exact HB.out)) hb); clear BK127; clear BK128; clear HB; have BK127 := n0_; have BK128 := n1_; have HB := n2_; clear n0_ n1_ n2_; (try clear hb); (try clear hb2); (try clear hk); (try clear hi); have hcz41_0 : w40.cell? ⟨gb127, 0, none⟩ = some (.int .i64 a0_0) := (kCe BK127.out 0).trans rfl; have hcz41_1 : w40.cell? ⟨gb127, 1, none⟩ = some (.string a0_1) := (kCe BK127.out 1).trans rfl; have hcz41_2 : w40.cell? ⟨gb127, 2, none⟩ = some (.string a0_2) := (kCe BK127.out 2).trans rfl; have hcz41_3 : w40.cell? ⟨gb127, 3, none⟩ = some (.int .i64 a0_3) := (kCe BK127.out 3).trans rfl; have hcz41_4 : w40.cell? ⟨gb127, 4, none⟩ = some (.int .i64 a0_4) := (kCe BK127.out 4).trans rfl; have hcz42_0 : w40.cell? ⟨gb128, 0, none⟩ = some (.int .i64 a1_0) := (kCe BK128.out 0).trans rfl; have hcz42_1 : w40.cell? ⟨gb128, 1, none⟩ = some (.string a1_1) := (kCe BK128.out 1).trans rfl; have hcz42_2 : w40.cell? ⟨gb128, 2, none⟩ = some (.string a1_2) := (kCe BK128.out 2).trans rfl; have hcz42_3 : w40.cell? ⟨gb128, 3, none⟩ = some (.int .i64 a1_3) := (kCe BK128.out 3).trans rfl; have hcz42_4 : w40.cell? ⟨gb128, 4, none⟩ = some (.int .i64 a1_4) := (kCe BK128.out 4).trans rfl) | (go_at_call 23; (with_reducible refine (check_begins.calls a0_2 a1_2 false _ A27.out).mono ?_); rintro e w' ⟨rfl, ⟨nd, rfl⟩⟩))
          go_roundg k2
          case measure => have := HJ2.out; have := HK2.out; omega
          case rel => exact ⟨(wrap64 (x5_2 + 1)), (by first | rfl | (simp; done) | (simp [*]; done)), H', ⟨by have := HJ2.out; have := HK2.out; omega⟩, ⟨by (with_reducible repeat (first | refine kDN ?_ _ | refine kDr ?_ | refine kAl ?_ _)); exact BK127.out⟩, ⟨by (with_reducible repeat (first | refine kDN ?_ _ | refine kDr ?_ | refine kAl ?_ _)); exact BK128.out⟩, ⟨by repeat (first | (with_reducible first | exact HB.out | apply bAl | apply pbD | apply bD1 | refine bSt ?_ GE127.out | refine bSt ?_ GE128.out) | exact HB.out)⟩⟩
        ·
         replace c26 := Bool.eq_false_iff.mpr c26
         subst c26
         have H1 : (check_ClashA.l0 k2 (wrap64 (x5_2 + 1)) a0_0 a0_1 a0_2 a0_3 a0_4 a1_0 a1_1 a1_2 a1_3 a1_4) = some r := by rw [if_neg (show ¬ (false = true) by decide)] at H; exact H
         clear H
         have H := H1
         clear H1
         have H' := aK H
         clear H
         have hnb43 := NB127_128.out
         have hnc43 := NB128_127.out
         have hcz44_0 : wr.cell? ⟨gb127, 0, none⟩ = some (.int .i64 a0_0) := (kCe BK127.out 0).trans rfl
         have hcz44_1 : wr.cell? ⟨gb127, 1, none⟩ = some (.string a0_1) := (kCe BK127.out 1).trans rfl
         have hcz44_2 : wr.cell? ⟨gb127, 2, none⟩ = some (.string a0_2) := (kCe BK127.out 2).trans rfl
         have hcz44_3 : wr.cell? ⟨gb127, 3, none⟩ = some (.int .i64 a0_3) := (kCe BK127.out 3).trans rfl
         have hcz44_4 : wr.cell? ⟨gb127, 4, none⟩ = some (.int .i64 a0_4) := (kCe BK127.out 4).trans rfl
         go_wp2_with (first | ((with_reducible refine gate_callee (f := 13) rfl ?_); refine goesL_ (some 36) rfl rfl Try.func13 (by kernel_rfl) rfl #[.agg #[.int .i64 a0_0, .string a0_1, .string a0_2, .int .i64 a0_3, .int .i64 a0_4], .int .i64 x5_2] rfl (by (try simp only [qM0, qM1, qM2]); first | done | rfl | (simp only [qD0, qD1]; rfl)) ?_; (with_reducible refine (check_In.calls k2 a0_0 a0_1 a0_2 a0_3 a0_4 x5_2 true _ A23.out).mono ?_); rintro e w45 ⟨rfl, hb⟩; refine ⟨_, rfl, ?_⟩; have n0_ := aK (kBe (g := gb127) (o := .cells #[.int .i64 a0_0, .string a0_1, .string a0_2, .int .i64 a0_3, .int .i64 a0_4] 23 (0, 0)) (by (with_reducible repeat (first | refine kDN ?_ _ | refine kDr ?_ | refine kAl ?_ _)); exact BK127.out) hb); have n1_ := aK (kBe (g := gb128) (o := .cells #[.int .i64 a1_0, .string a1_1, .string a1_2, .int .i64 a1_3, .int .i64 a1_4] 23 (0, 0)) (by (with_reducible repeat (first | refine kDN ?_ _ | refine kDr ?_ | refine kAl ?_ _)); exact BK128.out) hb); have n2_ := aK (bSp (by repeat (first | (with_reducible first | exact HB.out | apply bAl | apply pbD | apply bD1 | refine bSt ?_ GE127.out | refine bSt ?_ GE128.out) | exact HB.out)) hb); clear BK127; clear BK128; clear HB; have BK127 := n0_; have BK128 := n1_; have HB := n2_; clear n0_ n1_ n2_; (try clear hb); (try clear hb2); (try clear hk); (try clear hi); have hcz46_0 : w45.cell? ⟨gb128, 0, none⟩ = some (.int .i64 a1_0) := (kCe BK128.out 0).trans rfl; have hcz46_1 : w45.cell? ⟨gb128, 1, none⟩ = some (.string a1_1) := (kCe BK128.out 1).trans rfl; have hcz46_2 : w45.cell? ⟨gb128, 2, none⟩ = some (.string a1_2) := (kCe BK128.out 2).trans rfl; have hcz46_3 : w45.cell? ⟨gb128, 3, none⟩ = some (.int .i64 a1_3) := (kCe BK128.out 3).trans rfl; have hcz46_4 : w45.cell? ⟨gb128, 4, none⟩ = some (.int .i64 a1_4) := (kCe BK128.out 4).trans rfl) | (go_at_call 13; (with_reducible refine (check_In.calls k2 a1_0 a1_1 a1_2 a1_3 a1_4 x5_2 false _ A25.out).mono ?_); rintro e w47 ⟨rfl, hb⟩; have n0_ := aK (kBe (g := gb127) (o := .cells #[.int .i64 a0_0, .string a0_1, .string a0_2, .int .i64 a0_3, .int .i64 a0_4] 23 (0, 0)) (by (with_reducible repeat (first | refine kDN ?_ _ | refine kDr ?_ | refine kAl ?_ _)); exact BK127.out) hb); have n1_ := aK (kBe (g := gb128) (o := .cells #[.int .i64 a1_0, .string a1_1, .string a1_2, .int .i64 a1_3, .int .i64 a1_4] 23 (0, 0)) (by (with_reducible repeat (first | refine kDN ?_ _ | refine kDr ?_ | refine kAl ?_ _)); exact BK128.out) hb); have n2_ := aK (bSp (by repeat (first | (with_reducible first | exact HB.out | apply bAl | apply pbD | apply bD1 | refine bSt ?_ GE127.out | refine bSt ?_ GE128.out) | exact HB.out)) hb); clear BK127; clear BK128; clear HB; have BK127 := n0_; have BK128 := n1_; have HB := n2_; clear n0_ n1_ n2_; (try clear hb); (try clear hb2); (try clear hk); (try clear hi)))
         go_roundg k2
         case measure => have := HJ2.out; have := HK2.out; omega
         case rel => exact ⟨(wrap64 (x5_2 + 1)), (by first | rfl | (simp; done) | (simp [*]; done)), H', ⟨by have := HJ2.out; have := HK2.out; omega⟩, ⟨by (with_reducible repeat (first | refine kDN ?_ _ | refine kDr ?_ | refine kAl ?_ _)); exact BK127.out⟩, ⟨by (with_reducible repeat (first | refine kDN ?_ _ | refine kDr ?_ | refine kAl ?_ _)); exact BK128.out⟩, ⟨by repeat (first | (with_reducible first | exact HB.out | apply bAl | apply pbD | apply bD1 | refine bSt ?_ GE127.out | refine bSt ?_ GE128.out) | exact HB.out)⟩⟩
       ·
        replace c24 := Bool.eq_false_iff.mpr c24
        subst c24
        have H1 : (check_ClashA.l0 k2 (wrap64 (x5_2 + 1)) a0_0 a0_1 a0_2 a0_3 a0_4 a1_0 a1_1 a1_2 a1_3 a1_4) = some r := by rw [if_neg (show ¬ (false = true) by decide)] at H; exact H
        clear H
        have H := H1
        clear H1
        have H' := aK H
        clear H
        have hnb48 := NB127_128.out
        have hnc48 := NB128_127.out
        have hcz49_0 : wr.cell? ⟨gb127, 0, none⟩ = some (.int .i64 a0_0) := (kCe BK127.out 0).trans rfl
        have hcz49_1 : wr.cell? ⟨gb127, 1, none⟩ = some (.string a0_1) := (kCe BK127.out 1).trans rfl
        have hcz49_2 : wr.cell? ⟨gb127, 2, none⟩ = some (.string a0_2) := (kCe BK127.out 2).trans rfl
        have hcz49_3 : wr.cell? ⟨gb127, 3, none⟩ = some (.int .i64 a0_3) := (kCe BK127.out 3).trans rfl
        have hcz49_4 : wr.cell? ⟨gb127, 4, none⟩ = some (.int .i64 a0_4) := (kCe BK127.out 4).trans rfl
        go_wp2_with (first | ((with_reducible refine gate_callee (f := 13) rfl ?_); refine goesL_ (some 36) rfl rfl Try.func13 (by kernel_rfl) rfl #[.agg #[.int .i64 a0_0, .string a0_1, .string a0_2, .int .i64 a0_3, .int .i64 a0_4], .int .i64 x5_2] rfl (by (try simp only [qM0, qM1, qM2]); first | done | rfl | (simp only [qD0, qD1]; rfl)) ?_; (with_reducible refine (check_In.calls k2 a0_0 a0_1 a0_2 a0_3 a0_4 x5_2 false _ A23.out).mono ?_); rintro e w50 ⟨rfl, hb⟩; refine ⟨_, rfl, ?_⟩; have n0_ := aK (kBe (g := gb127) (o := .cells #[.int .i64 a0_0, .string a0_1, .string a0_2, .int .i64 a0_3, .int .i64 a0_4] 23 (0, 0)) (by (with_reducible repeat (first | refine kDN ?_ _ | refine kDr ?_ | refine kAl ?_ _)); exact BK127.out) hb); have n1_ := aK (kBe (g := gb128) (o := .cells #[.int .i64 a1_0, .string a1_1, .string a1_2, .int .i64 a1_3, .int .i64 a1_4] 23 (0, 0)) (by (with_reducible repeat (first | refine kDN ?_ _ | refine kDr ?_ | refine kAl ?_ _)); exact BK128.out) hb); have n2_ := aK (bSp (by repeat (first | (with_reducible first | exact HB.out | apply bAl | apply pbD | apply bD1 | refine bSt ?_ GE127.out | refine bSt ?_ GE128.out) | exact HB.out)) hb); clear BK127; clear BK128; clear HB; have BK127 := n0_; have BK128 := n1_; have HB := n2_; clear n0_ n1_ n2_; (try clear hb); (try clear hb2); (try clear hk); (try clear hi)))
        go_roundg k2
        case measure => have := HJ2.out; have := HK2.out; omega
        case rel => exact ⟨(wrap64 (x5_2 + 1)), (by first | rfl | (simp; done) | (simp [*]; done)), H', ⟨by have := HJ2.out; have := HK2.out; omega⟩, ⟨by (with_reducible repeat (first | refine kDN ?_ _ | refine kDr ?_ | refine kAl ?_ _)); exact BK127.out⟩, ⟨by (with_reducible repeat (first | refine kDN ?_ _ | refine kDr ?_ | refine kAl ?_ _)); exact BK128.out⟩, ⟨by repeat (first | (with_reducible first | exact HB.out | apply bAl | apply pbD | apply bD1 | refine bSt ?_ GE127.out | refine bSt ?_ GE128.out) | exact HB.out)⟩⟩
      ·
       rw [if_neg c22] at H
       have c22b0 : decide (x5_2 ≤ 3) = false := decide_eq_false c22
       clear c22
       replace H := oB H
       obtain ⟨t129, A510, H⟩ := H
       try dsimp only at H
       have A51 := aK A510
       clear A510
       by_cases c52 : t129 = true
       ·
        subst c52
        have H1 : (some true) = some r := by rw [if_pos rfl] at H; exact H
        clear H
        have H := H1
        clear H1
        obtain rfl := oI H
        have hnb53 := NB127_128.out
        have hnc53 := NB128_127.out
        have hcz54_0 : wr.cell? ⟨gb127, 0, none⟩ = some (.int .i64 a0_0) := (kCe BK127.out 0).trans rfl
        have hcz54_1 : wr.cell? ⟨gb127, 1, none⟩ = some (.string a0_1) := (kCe BK127.out 1).trans rfl
        have hcz54_2 : wr.cell? ⟨gb127, 2, none⟩ = some (.string a0_2) := (kCe BK127.out 2).trans rfl
        have hcz54_3 : wr.cell? ⟨gb127, 3, none⟩ = some (.int .i64 a0_3) := (kCe BK127.out 3).trans rfl
        have hcz54_4 : wr.cell? ⟨gb127, 4, none⟩ = some (.int .i64 a0_4) := (kCe BK127.out 4).trans rfl
        have hcz55_0 : wr.cell? ⟨gb128, 0, none⟩ = some (.int .i64 a1_0) := (kCe BK128.out 0).trans rfl
        have hcz55_1 : wr.cell? ⟨gb128, 1, none⟩ = some (.string a1_1) := (kCe BK128.out 1).trans rfl
        have hcz55_2 : wr.cell? ⟨gb128, 2, none⟩ = some (.string a1_2) := (kCe BK128.out 2).trans rfl
        have hcz55_3 : wr.cell? ⟨gb128, 3, none⟩ = some (.int .i64 a1_3) := (kCe BK128.out 3).trans rfl
        have hcz55_4 : wr.cell? ⟨gb128, 4, none⟩ = some (.int .i64 a1_4) := (kCe BK128.out 4).trans rfl
        go_wp2_with (first | ((with_reducible refine gate_callee (f := 24) rfl ?_); refine goesL_ (some 51) rfl rfl Try.func24 (by kernel_rfl) rfl #[.agg #[.int .i64 a0_0, .string a0_1, .string a0_2, .int .i64 a0_3, .int .i64 a0_4], .agg #[.int .i64 a1_0, .string a1_1, .string a1_2, .int .i64 a1_3, .int .i64 a1_4]] rfl (by (try simp only [qM0, qM1, qM2]); first | done | rfl | (simp only [qD0, qD1]; rfl)) ?_; (with_reducible refine (check_spoilsA.calls k2 a0_0 a0_1 a0_2 a0_3 a0_4 a1_0 a1_1 a1_2 a1_3 a1_4 true _ A51.out (hmx.out.of (by repeat (first | (with_reducible first | exact HB.out | apply bAl | apply pbD | apply bD1 | refine bSt ?_ GE127.out | refine bSt ?_ GE128.out) | exact HB.out)))).mono ?_); rintro e w56 ⟨rfl, hb⟩; refine ⟨_, rfl, ?_⟩; have n0_ := aK (kBe (g := gb127) (o := .cells #[.int .i64 a0_0, .string a0_1, .string a0_2, .int .i64 a0_3, .int .i64 a0_4] 23 (0, 0)) (by (with_reducible repeat (first | refine kDN ?_ _ | refine kDr ?_ | refine kAl ?_ _)); exact BK127.out) hb); have n1_ := aK (kBe (g := gb128) (o := .cells #[.int .i64 a1_0, .string a1_1, .string a1_2, .int .i64 a1_3, .int .i64 a1_4] 23 (0, 0)) (by (with_reducible repeat (first | refine kDN ?_ _ | refine kDr ?_ | refine kAl ?_ _)); exact BK128.out) hb); have n2_ := aK (bSp (by repeat (first | (with_reducible first | exact HB.out | apply bAl | apply pbD | apply bD1 | refine bSt ?_ GE127.out | refine bSt ?_ GE128.out) | exact HB.out)) hb); clear BK127; clear BK128; clear HB; have BK127 := n0_; have BK128 := n1_; have HB := n2_; clear n0_ n1_ n2_; (try clear hb); (try clear hb2); (try clear hk); (try clear hi)))
        go_ret
        exact ⟨by first | rfl | (simp [eWn, eWs] <;> rfl) | (simp [*, eWn, eWs] <;> rfl), by repeat (first | (with_reducible first | exact HB.out | apply bAl | apply pbD | apply bD1 | refine bSt ?_ GE127.out | refine bSt ?_ GE128.out) | exact HB.out)⟩
       ·
        replace c52 := Bool.eq_false_iff.mpr c52
        subst c52
        have H1 : ((check_spoilsA.f k2 a1_0 a1_1 a1_2 a1_3 a1_4 a0_0 a0_1 a0_2 a0_3 a0_4).bind fun t130 => (some t130)) = some r := by rw [if_neg (show ¬ (false = true) by decide)] at H; exact H
        clear H
        have H := H1
        clear H1
        replace H := oB H
        obtain ⟨t130, A570, H⟩ := H
        replace H : (some t130) = some r := H
        have A57 := aK A570
        clear A570
        obtain rfl := oI H
        have hnb58 := NB127_128.out
        have hnc58 := NB128_127.out
        have hcz59_0 : wr.cell? ⟨gb127, 0, none⟩ = some (.int .i64 a0_0) := (kCe BK127.out 0).trans rfl
        have hcz59_1 : wr.cell? ⟨gb127, 1, none⟩ = some (.string a0_1) := (kCe BK127.out 1).trans rfl
        have hcz59_2 : wr.cell? ⟨gb127, 2, none⟩ = some (.string a0_2) := (kCe BK127.out 2).trans rfl
        have hcz59_3 : wr.cell? ⟨gb127, 3, none⟩ = some (.int .i64 a0_3) := (kCe BK127.out 3).trans rfl
        have hcz59_4 : wr.cell? ⟨gb127, 4, none⟩ = some (.int .i64 a0_4) := (kCe BK127.out 4).trans rfl
        have hcz60_0 : wr.cell? ⟨gb128, 0, none⟩ = some (.int .i64 a1_0) := (kCe BK128.out 0).trans rfl
        have hcz60_1 : wr.cell? ⟨gb128, 1, none⟩ = some (.string a1_1) := (kCe BK128.out 1).trans rfl
        have hcz60_2 : wr.cell? ⟨gb128, 2, none⟩ = some (.string a1_2) := (kCe BK128.out 2).trans rfl
        have hcz60_3 : wr.cell? ⟨gb128, 3, none⟩ = some (.int .i64 a1_3) := (kCe BK128.out 3).trans rfl
        have hcz60_4 : wr.cell? ⟨gb128, 4, none⟩ = some (.int .i64 a1_4) := (kCe BK128.out 4).trans rfl
        go_wp2_with (first | ((with_reducible refine gate_callee (f := 24) rfl ?_); refine goesL_ (some 51) rfl rfl Try.func24 (by kernel_rfl) rfl #[.agg #[.int .i64 a0_0, .string a0_1, .string a0_2, .int .i64 a0_3, .int .i64 a0_4], .agg #[.int .i64 a1_0, .string a1_1, .string a1_2, .int .i64 a1_3, .int .i64 a1_4]] rfl (by (try simp only [qM0, qM1, qM2]); first | done | rfl | (simp only [qD0, qD1]; rfl)) ?_; (with_reducible refine (check_spoilsA.calls k2 a0_0 a0_1 a0_2 a0_3 a0_4 a1_0 a1_1 a1_2 a1_3 a1_4 false _ A51.out (hmx.out.of (by repeat (first | (with_reducible first | exact HB.out | apply bAl | apply pbD | apply bD1 | refine bSt ?_ GE127.out | refine bSt ?_ GE128.out) | exact HB.out)))).mono ?_); rintro e w61 ⟨rfl, hb⟩; refine ⟨_, rfl, ?_⟩; have n0_ := aK (kBe (g := gb127) (o := .cells #[.int .i64 a0_0, .string a0_1, .string a0_2, .int .i64 a0_3, .int .i64 a0_4] 23 (0, 0)) (by (with_reducible repeat (first | refine kDN ?_ _ | refine kDr ?_ | refine kAl ?_ _)); exact BK127.out) hb); have n1_ := aK (kBe (g := gb128) (o := .cells #[.int .i64 a1_0, .string a1_1, .string a1_2, .int .i64 a1_3, .int .i64 a1_4] 23 (0, 0)) (by (with_reducible repeat (first | refine kDN ?_ _ | refine kDr ?_ | refine kAl ?_ _)); exact BK128.out) hb); have n2_ := aK (bSp (by repeat (first | (with_reducible first | exact HB.out | apply bAl | apply pbD | apply bD1 | refine bSt ?_ GE127.out | refine bSt ?_ GE128.out) | exact HB.out)) hb); clear BK127; clear BK128; clear HB; have BK127 := n0_; have BK128 := n1_; have HB := n2_; clear n0_ n1_ n2_; (try clear hb); (try clear hb2); (try clear hk); (try clear hi); have hcz62_0 : w61.cell? ⟨gb128, 0, none⟩ = some (.int .i64 a1_0) := (kCe BK128.out 0).trans rfl; have hcz62_1 : w61.cell? ⟨gb128, 1, none⟩ = some (.string a1_1) := (kCe BK128.out 1).trans rfl; have hcz62_2 : w61.cell? ⟨gb128, 2, none⟩ = some (.string a1_2) := (kCe BK128.out 2).trans rfl; have hcz62_3 : w61.cell? ⟨gb128, 3, none⟩ = some (.int .i64 a1_3) := (kCe BK128.out 3).trans rfl; have hcz62_4 : w61.cell? ⟨gb128, 4, none⟩ = some (.int .i64 a1_4) := (kCe BK128.out 4).trans rfl; have hcz63_0 : w61.cell? ⟨gb127, 0, none⟩ = some (.int .i64 a0_0) := (kCe BK127.out 0).trans rfl; have hcz63_1 : w61.cell? ⟨gb127, 1, none⟩ = some (.string a0_1) := (kCe BK127.out 1).trans rfl; have hcz63_2 : w61.cell? ⟨gb127, 2, none⟩ = some (.string a0_2) := (kCe BK127.out 2).trans rfl; have hcz63_3 : w61.cell? ⟨gb127, 3, none⟩ = some (.int .i64 a0_3) := (kCe BK127.out 3).trans rfl; have hcz63_4 : w61.cell? ⟨gb127, 4, none⟩ = some (.int .i64 a0_4) := (kCe BK127.out 4).trans rfl) | (go_at_call 24; (with_reducible refine (check_spoilsA.calls k2 a1_0 a1_1 a1_2 a1_3 a1_4 a0_0 a0_1 a0_2 a0_3 a0_4 t130 _ A57.out (hmx.out.of (by repeat (first | (with_reducible first | exact HB.out | apply bAl | apply pbD | apply bD1 | refine bSt ?_ GE127.out | refine bSt ?_ GE128.out) | exact HB.out)))).mono ?_); rintro e w64 ⟨rfl, hb⟩; have n0_ := aK (kBe (g := gb127) (o := .cells #[.int .i64 a0_0, .string a0_1, .string a0_2, .int .i64 a0_3, .int .i64 a0_4] 23 (0, 0)) (by (with_reducible repeat (first | refine kDN ?_ _ | refine kDr ?_ | refine kAl ?_ _)); exact BK127.out) hb); have n1_ := aK (kBe (g := gb128) (o := .cells #[.int .i64 a1_0, .string a1_1, .string a1_2, .int .i64 a1_3, .int .i64 a1_4] 23 (0, 0)) (by (with_reducible repeat (first | refine kDN ?_ _ | refine kDr ?_ | refine kAl ?_ _)); exact BK128.out) hb); have n2_ := aK (bSp (by repeat (first | (with_reducible first | exact HB.out | apply bAl | apply pbD | apply bD1 | refine bSt ?_ GE127.out | refine bSt ?_ GE128.out) | exact HB.out)) hb); clear BK127; clear BK128; clear HB; have BK127 := n0_; have BK128 := n1_; have HB := n2_; clear n0_ n1_ n2_; (try clear hb); (try clear hb2); (try clear hk); (try clear hi)))
        go_ret
        exact ⟨by first | rfl | (simp [eWn, eWs] <;> rfl) | (simp [*, eWn, eWs] <;> rfl), by repeat (first | (with_reducible first | exact HB.out | apply bAl | apply pbD | apply bD1 | refine bSt ?_ GE127.out | refine bSt ?_ GE128.out) | exact HB.out)⟩
end Go.Proofs.Ytgjkjoocnkdckaa.PChk
