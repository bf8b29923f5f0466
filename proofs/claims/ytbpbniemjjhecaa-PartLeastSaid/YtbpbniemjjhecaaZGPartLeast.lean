import Derived.Test.YtbpbniemjjhecaaZPChk0
import Derived.Test.YtbpbniemjjhecaaZGPartAw
import Derived.Test.YtbpbniemjjhecaaProg
import Derived.Below
import Derived.Deep.Draws
import Derived.Deep.AppendLies
import Derived.Maps.AppendAt
import Derived.OwnWalk
import Derived.Laws.BytesArg
import Derived.Laws.MakeOwn
import Derived.Laws.OwnMore
import Derived.Deep.OwnRows
import Derived.Tactics
import Derived.Lib.ConvBytes
import Derived.Laws.Slices
import Derived.WalkKit
import Derived.KernelRfl
import Derived.RowKit3
import Derived.Deep.LoopGhost
import Derived.Deep.QuietTactic
import Derived.BigQuiet
import Derived.WideLaws
import Derived.Deep.DeepCutAuto
import Derived.Deep.CutBlock
import Derived.Deep.RegionHeld3
import Derived.Laws.Rows
import Derived.Lib.AppendStr
import Derived.ArgAppend
import Derived.Laws.IdiomCopy
import Derived.OrdersHeld
import Derived.Laws.BitsLemmas
import Derived.RowKit
import Derived.Test.YtbpbniemjjhecaaZGCharsCase
import Derived.Test.YtbpbniemjjhecaaZPPar1
import Derived.Test.YtbpbniemjjhecaaZPPar2
import Derived.Test.YtbpbniemjjhecaaZPPar3
import Derived.Test.YtbpbniemjjhecaaZPChk6
import Derived.Test.YtbpbniemjjhecaaZWSized
namespace Go.Proofs.Ytbpbniemjjhecaa.PChk
open Go.RowKit Go.Proofs.Ytbpbniemjjhecaa.G Go.Proofs.Ytbpbniemjjhecaa.PChk Go.Proofs.YtbpbniemjjhecaaW.PrintWords Go.Proofs.YtbpbniemjjhecaaW.PrintLast Go.Proofs.YtbpbniemjjhecaaW.PrintMore
attribute [local go_sem] max2_int min2_int max_two min_two max_three min_three max_four min_four
set_option linter.unusedVariables false
set_option linter.unusedSimpArgs false
set_option maxHeartbeats 8000000
set_option maxRecDepth 100000
mutual
def pLeast.j0 : Nat → List (S33) → ByteArray → Int → Int → Int → Bool → Bool → Option (Bool)
 | 0, _, _, _, _, _, _, _ => none
 | k + 1, x0, x1, x2, x3, x12, x13, x14 => if (x13 != x14) = true then (pLeast.j1 k x0 x1 x2 x3 x12 x13 true) else (if x13 = true then (pLeast.j1 k x0 x1 x2 x3 x12 x13 false) else (pLeast.j1 k x0 x1 x2 x3 x12 x13 (x12 != 0)))
def pLeast.j1 : Nat → List (S33) → ByteArray → Int → Int → Int → Bool → Bool → Option (Bool)
 | 0, _, _, _, _, _, _, _ => none
 | k + 1, x0, x1, x2, x3, x12, x13, x68 => if x68 = true then (some false) else (if x13 = true then (if x12 < 0 then (pLeast.j2 k x0 x1 x2 x3 x12 true) else (if x12 ≥ (x0.length : Int) then (pLeast.j2 k x0 x1 x2 x3 x12 true) else (if 0 ≤ x12 then (if x12 < (x0.length : Int) then ((part_Eligible.f ((rd_T33 x0 x12).f0) ((rd_T33 x0 x12).f1) ((rd_T33 x0 x12).f2) ((rd_T33 x0 x12).f3) ((rd_T33 x0 x12).f4) x1 x2 x3).bind fun t106 => (if t106 = true then (pLeast.j2 k x0 x1 x2 x3 x12 (decide ((((rd_T33 x0 x12).f1).size : Int) > x3))) else (pLeast.j2 k x0 x1 x2 x3 x12 true))) else (none)) else (none)))) else ((w11_awake.f).bind fun t104 => (some t104)))
def pLeast.j2 : Nat → List (S33) → ByteArray → Int → Int → Int → Bool → Option (Bool)
 | 0, _, _, _, _, _, _ => none
 | k + 1, x0, x1, x2, x3, x12, x100 => if x100 = true then (some false) else (pLeast.l0 k x0 x1 x2 x3 x12 0)
def pLeast.l0 : Nat → List (S33) → ByteArray → Int → Int → Int → Int → Option (Bool)
 | 0, _, _, _, _, _, _ => none
 | k + 1, x0, x1, x2, x3, x12, x15 => if x15 < (x0.length : Int) then (if 0 ≤ x15 then ((part_Eligible.f ((rd_T33 x0 x15).f0) ((rd_T33 x0 x15).f1) ((rd_T33 x0 x15).f2) ((rd_T33 x0 x15).f3) ((rd_T33 x0 x15).f4) x1 x2 x3).bind fun t109 => (if t109 = true then (if 0 ≤ x12 then (if x12 < (x0.length : Int) then (if ((rd_T33 x0 x15).f3) < ((rd_T33 x0 x12).f3) then (some false) else (if ((rd_T33 x0 x15).f3) = ((rd_T33 x0 x12).f3) then (if (((rd_T33 x0 x15).f1).size : Int) > (((rd_T33 x0 x12).f1).size : Int) then (some false) else (if (((rd_T33 x0 x15).f1).size : Int) = (((rd_T33 x0 x12).f1).size : Int) then (if x15 < x12 then (some false) else (pLeast.l0 k x0 x1 x2 x3 x12 (wrap64 (x15 + 1)))) else (pLeast.l0 k x0 x1 x2 x3 x12 (wrap64 (x15 + 1))))) else (pLeast.l0 k x0 x1 x2 x3 x12 (wrap64 (x15 + 1))))) else (none)) else (none)) else (pLeast.l0 k x0 x1 x2 x3 x12 (wrap64 (x15 + 1))))) else (none)) else ((w11_awake.f).bind fun t118 => (some t118))
end
def pLeast.f (k : Nat) (l0 : List (S33)) (a1 : ByteArray) (a2 : Int) (a3 : Int) (a4 : Tr) : Option (Bool) := (part_Best.f a4 a1 a2 a3).bind fun bt101 => ((chars_Case.f a1).bind fun t103 => (if t103 = 1 then (if a2 ≥ 0 then (if a2 < (a1.size : Int) then (pLeast.j0 k l0 a1 a2 a3 bt101.1 bt101.2 (decide (a3 > 0))) else (pLeast.j0 k l0 a1 a2 a3 bt101.1 bt101.2 false)) else (pLeast.j0 k l0 a1 a2 a3 bt101.1 bt101.2 false)) else (pLeast.j0 k l0 a1 a2 a3 bt101.1 bt101.2 false)))
def pLeast.T17 : Bool × List (List Nat × List Nat) := (true, [([], []), ([], []), ([0, 1], [0, 1]), ([2], [2]), ([], []), ([], []), ([], []), ([3, 4, 5, 6], [3, 4, 5, 6]), ([7, 7], [7]), ([8], [8]), ([8], [8]), ([9, 10, 8], [8, 9, 10]), ([11, 8], [8, 11]), ([12, 8], [8, 12]), ([8], [8]), ([8], [8]), ([14, 15, 8], [8, 14, 15]), ([16, 8], [8, 16]), ([17, 8], [8, 17]), ([13, 18, 8], [8, 13, 18]), ([19, 8, 8], [8, 19]), ([20], [20]), ([20], [20]), ([21, 22, 20], [20, 21, 22]), ([23, 20], [20, 23]), ([24, 20], [20, 24]), ([20], [20]), ([20], [20]), ([26, 27, 20], [20, 26, 27]), ([28, 20], [20, 28]), ([29, 20], [20, 29]), ([25, 30, 20], [20, 25, 30]), ([31, 20, 20], [20, 31]), ([32], [32]), ([32], [32]), ([33, 34, 32], [32, 33, 34]), ([35, 32], [32, 35]), ([36, 32], [32, 36]), ([37, 32], [32, 37]), ([32], [32]), ([32], [32]), ([39, 40, 32], [32, 39, 40]), ([41, 32], [32, 41]), ([42, 32], [32, 42]), ([43, 32], [32, 43]), ([38, 44, 32], [32, 38, 44]), ([45, 32, 32], [32, 45]), ([46], [46]), ([46], [46]), ([47, 48, 46], [46, 47, 48]), ([49, 46], [46, 49]), ([50, 46], [46, 50]), ([51, 46], [46, 51]), ([46], [46]), ([46], [46]), ([53, 54, 46], [46, 53, 54]), ([55, 46], [46, 55]), ([56, 46], [46, 56]), ([57, 46], [46, 57]), ([52, 58, 46], [46, 52, 58]), ([59, 46, 46], [46, 59]), ([60], [60]), ([60], [60]), ([61, 62, 60], [60, 61, 62]), ([60, 63, 46], [46, 60, 63]), ([46, 64, 32], [32, 46, 64]), ([32, 65, 20], [20, 32, 65]), ([20, 66, 8], [8, 20, 66]), ([8, 67], [8, 67])])
def pLeast.B17 : List Nat := [0, 0, 3, 7, 0, 0, 0, 127, 255, 511, 511, 2047, 4095, 8191, 511, 511, 49663, 115199, 246271, 524287, 1048575, 2097151, 2097151, 8388607, 16777215, 33554431, 2097151, 2097151, 203423743, 471859199, 1008730111, 2147483647, 4294967295, 8589934591, 8589934591, 34359738367, 68719476735, 137438953471, 274877906943, 8589934591, 8589934591, 1657857376255, 3856880631807, 8254927142911, 17051020165119, 35184372088831, 70368744177663, 140737488355327, 140737488355327, 562949953421311, 1125899906842623, 2251799813685247, 4503599627370495, 140737488355327, 140737488355327, 27162335252578303, 63191132271542271, 135248726309470207, 279363914385326079, 576460752303423487, 1152921504606846975, 2305843009213693951, 2305843009213693951, 9223372036854775807, 18446744073709551615, 36893488147419103231, 73786976294838206463, 147573952589676412927, 295147905179352825855]
theorem pLeast.tab17 : rtab .any (opsOf Try.f8 17) = pLeast.T17 := by kernel_rfl
theorem pLeast.bits17 : waitsOk pLeast.T17.2 pLeast.B17 = true := by kernel_rfl
theorem pLeast.calls (k : Nat) (A0 : Option Addr) (c0 : Nat) (l0 : List Rl) (a1 : ByteArray) (a2 a3 : Int) (r : Bool) (w00 : World) (hr0 : Kd.C k33 w00 A0 l0.length l0) (hc0 : l0.length ≤ c0) (hL : w11_long.f 500 l0 = some false) (h60 : a1.size ≤ 60) (hn : trie_New.f l0 = some (some (some l0), 0, 0)) (hf : ∀ v, pLeast.f k l0 a1 a2 a3 ⟨v, some (some l0)⟩ = some r) (hT0 : r = true) :
  Calls Try.prog 8 #[.slice A0 l0.length c0, .string a1, .int .i64 a2, .int .i64 a3] w00 fun e w' => e = .returned (.bool r) ∧ Below w00.heap.size w00 w' := by
 have h1 := w11_long.calls 500 A0 c0 l0 false w00 hr0 hc0 hL
 have HR := Lib.hid hr0
 have HF := aK hf
 have HN := Lib.hid hn
 have HC := Lib.hid hc0
 have h6 : decide ((a1.size : Int) > 60) = false := decide_eq_false (by omega)
 have h7 : decide ((60 : Int) < (a1.size : Int)) = false := decide_eq_false (by omega)
 clear hf hn hr0 hL hc0 h60
 go_enter Try.func8, Try.ntmps8
 try dsimp only [List.append]
 go_wp2_with fail
 go_at_call 25
 refine h1.mono ?_
 rintro e w1 ⟨rfl, b1⟩
 have HB1 := Lib.hid b1.below
 clear b1 h1
 go_wp2_with fail
 go_at_call 11
 refine (trie_New.calls A0 c0 l0 (some (some l0)) 0 0 w1 (Kd.C_below HR.out HB1.out) HC.out HN.out).mono ?_
 rintro e w ⟨v, rfl, ht, b2⟩
 have HT2 := Lib.hid ht
 have HB2 := Lib.hid (bSp HB1.out b2)
 clear b2 ht HB1
 go_upto_region 6 with (fail)
 have HB00 := aK HB2.out
 obtain ⟨a4, ea⟩ : ∃ a4 : Tr, a4 = ⟨v, some (some l0)⟩ := ⟨_, rfl⟩
 have hT4 : Tr.Is w a4 := by rw [ea]; exact HT2.out
 have h := HF.out v
 rw [← ea] at h
 obtain rfl : v = a4.v := by rw [ea]
 have hr0 := Kd.C_below HR.out HB2.out
 have hc0 := HC.out
 clear HT2 HC HF HB2 HR HN ea h6 h7
 have hu33 := Try.underlying33
 have HR0 := aK hr0
 have HC0 := aK hc0
 clear hr0 hc0
 have HT4 := aK hT4
 clear hT4
 have HB := aK (Below.refl w.heap.size w)
 have H : ((part_Best.f a4 a1 a2 a3).bind fun bt101 => ((chars_Case.f a1).bind fun t103 => (if t103 = 1 then (if a2 ≥ 0 then (if a2 < (a1.size : Int) then (pLeast.j0 k l0 a1 a2 a3 bt101.1 bt101.2 (decide (a3 > 0))) else (pLeast.j0 k l0 a1 a2 a3 bt101.1 bt101.2 false)) else (pLeast.j0 k l0 a1 a2 a3 bt101.1 bt101.2 false)) else (pLeast.j0 k l0 a1 a2 a3 bt101.1 bt101.2 false)))) = some r := h
 clear h
 have hT := aK hT0
 clear hT0
 replace H := oB H
 obtain ⟨⟨t101, t102⟩, A60, H⟩ := H
 try dsimp only at H
 have A6 := aK A60
 clear A60
 have HC7 := aK H
 clear H
 go_upto_region 7 with (first | ((with_reducible refine gate_callee (f := 29) rfl ?_); refine goesL_ (some 38) rfl rfl Try.func29 (by kernel_rfl) rfl #[a4.v, .string a1, .int .i64 a2, .int .i64 a3] rfl (by (try simp only [qM0, qM1, qM2]); first | done | rfl | (simp only [qD0, qD1]; rfl)) ?_; (with_reducible refine (part_Best.calls a4 a1 a2 a3 t101 t102 _ ?side1 A6.out).mono ?_); (case side1 => exact Tr.Is.below HT4.out (by repeat (first | (with_reducible first | exact HB.out | apply bAl | apply pbD | apply bD1) | exact HB.out))); rintro e w8 ⟨rfl, hb⟩; refine ⟨_, rfl, ?_⟩; have n0_ := aK (bSp (by repeat (first | (with_reducible first | exact HB.out | apply bAl | apply pbD | apply bD1) | exact HB.out)) hb); clear HB; have HB := n0_; clear n0_; (try clear hb); (try clear hb2); (try clear hk); (try clear hi)))
 (try simp only [Act.put, qSa, qS0, qS1])
 go_cut [14] (fun v14 wc => ∃ (kq : Nat) (x14_6 : Bool), v14 = .bool x14_6 ∧ Aside0 (pLeast.j0 kq l0 a1 a2 a3 t101 t102 x14_6 = some r) ∧ Aside0 (kq ≤ k) ∧ Aside0 (Below w.heap.size w wc))
 case first =>
  have H := HC7.out
  clear HC7
  replace H := oB H
  obtain ⟨t103, A90, H⟩ := H
  try dsimp only at H
  have A9 := aK A90
  clear A90
  by_cases c10 : t103 = 1
  rotate_left
  ·
   rw [if_neg c10] at H
   have c10b0 : (t103 == 1) = false := beq_eq_false_iff_ne.mpr c10
   have c10b1 : (t103 != 1) = true := bne_iff_ne.mpr c10
   (first | rw [c10b0] | (simp only [i64_w, i32_w]; rw [c10b0]) | skip)
   have H' := aK H
   clear H
   go_wp2_with (first | ((with_reducible refine gate_callee (f := 28) rfl ?_); refine goesL_ (some 42) rfl rfl Try.func28 (by kernel_rfl) rfl #[.string a1] rfl (by (try simp only [qM0, qM1, qM2]); first | done | rfl | (simp only [qD0, qD1]; rfl)) ?_; (with_reducible refine (chars_Case.calls a1 t103 _ A9.out).mono ?_); rintro e w16 ⟨rfl, hb⟩; refine ⟨_, rfl, ?_⟩; have n0_ := aK (bSp (by repeat (first | (with_reducible first | exact HB.out | apply bAl | apply pbD | apply bD1) | exact HB.out)) hb); clear HB; have HB := n0_; clear n0_; (try clear hb); (try clear hb2); (try clear hk); (try clear hi)))
   go_meet
   case rel => exact ⟨_, (false), (by first | rfl | (simp; done) | (simp [*]; done)), H', ⟨by first | omega | exact Nat.le_refl _⟩, ⟨by repeat (first | (with_reducible first | exact HB.out | apply bAl | apply pbD | apply bD1) | exact HB.out)⟩⟩
  rw [if_pos c10] at H
  have c10b0 : (t103 == 1) = true := beq_iff_eq.mpr c10
  have c10b1 : (t103 != 1) = false := bne_eq_false_iff_eq.mpr c10
  clear c10
  (first | rw [c10b0] | (simp only [i64_w, i32_w]; rw [c10b0]) | skip)
  by_cases c11 : a2 ≥ 0
  rotate_left
  ·
   rw [if_neg c11] at H
   have c11b0 : decide (0 ≤ a2) = false := decide_eq_false c11
   clear c11
   have H' := aK H
   clear H
   go_wp2_with (first | ((with_reducible refine gate_callee (f := 28) rfl ?_); refine goesL_ (some 42) rfl rfl Try.func28 (by kernel_rfl) rfl #[.string a1] rfl (by (try simp only [qM0, qM1, qM2]); first | done | rfl | (simp only [qD0, qD1]; rfl)) ?_; (with_reducible refine (chars_Case.calls a1 t103 _ A9.out).mono ?_); rintro e w15 ⟨rfl, hb⟩; refine ⟨_, rfl, ?_⟩; have n0_ := aK (bSp (by repeat (first | (with_reducible first | exact HB.out | apply bAl | apply pbD | apply bD1) | exact HB.out)) hb); clear HB; have HB := n0_; clear n0_; (try clear hb); (try clear hb2); (try clear hk); (try clear hi)))
   go_meet
   case rel => exact ⟨_, (false), (by first | rfl | (simp; done) | (simp [*]; done)), H', ⟨by first | omega | exact Nat.le_refl _⟩, ⟨by repeat (first | (with_reducible first | exact HB.out | apply bAl | apply pbD | apply bD1) | exact HB.out)⟩⟩
  rw [if_pos c11] at H
  have c11b0 : decide (0 ≤ a2) = true := decide_eq_true c11
  clear c11
  by_cases c12 : a2 < (a1.size : Int)
  rotate_left
  ·
   rw [if_neg c12] at H
   have c12b0 : decide (a2 < (a1.size : Int)) = false := decide_eq_false c12
   clear c12
   have H' := aK H
   clear H
   go_wp2_with (first | ((with_reducible refine gate_callee (f := 28) rfl ?_); refine goesL_ (some 42) rfl rfl Try.func28 (by kernel_rfl) rfl #[.string a1] rfl (by (try simp only [qM0, qM1, qM2]); first | done | rfl | (simp only [qD0, qD1]; rfl)) ?_; (with_reducible refine (chars_Case.calls a1 t103 _ A9.out).mono ?_); rintro e w14 ⟨rfl, hb⟩; refine ⟨_, rfl, ?_⟩; have n0_ := aK (bSp (by repeat (first | (with_reducible first | exact HB.out | apply bAl | apply pbD | apply bD1) | exact HB.out)) hb); clear HB; have HB := n0_; clear n0_; (try clear hb); (try clear hb2); (try clear hk); (try clear hi)))
   go_meet
   case rel => exact ⟨_, (false), (by first | rfl | (simp; done) | (simp [*]; done)), H', ⟨by first | omega | exact Nat.le_refl _⟩, ⟨by repeat (first | (with_reducible first | exact HB.out | apply bAl | apply pbD | apply bD1) | exact HB.out)⟩⟩
  rw [if_pos c12] at H
  have c12b0 : decide (a2 < (a1.size : Int)) = true := decide_eq_true c12
  clear c12
  have H' := aK H
  clear H
  go_wp2_with (first | ((with_reducible refine gate_callee (f := 28) rfl ?_); refine goesL_ (some 42) rfl rfl Try.func28 (by kernel_rfl) rfl #[.string a1] rfl (by (try simp only [qM0, qM1, qM2]); first | done | rfl | (simp only [qD0, qD1]; rfl)) ?_; (with_reducible refine (chars_Case.calls a1 t103 _ A9.out).mono ?_); rintro e w13 ⟨rfl, hb⟩; refine ⟨_, rfl, ?_⟩; have n0_ := aK (bSp (by repeat (first | (with_reducible first | exact HB.out | apply bAl | apply pbD | apply bD1) | exact HB.out)) hb); clear HB; have HB := n0_; clear n0_; (try clear hb); (try clear hb2); (try clear hk); (try clear hi)))
  go_meet
  case rel => exact ⟨_, (decide (a3 > 0)), (by first | rfl | (simp; done) | (simp [*]; done)), H', ⟨by first | omega | exact Nat.le_refl _⟩, ⟨by repeat (first | (with_reducible first | exact HB.out | apply bAl | apply pbD | apply bD1) | exact HB.out)⟩⟩
 case rest =>
  clear HC7
  try clear c1
  try clear c2
  try clear p2
  try clear c8
  try clear c10
  try clear c10b0
  try clear c10b1
  try clear c11
  try clear c11b0
  try clear c12
  try clear c12b0
  obtain ⟨kq, x14_6, rfl, HA, HJ6, HB⟩ := hcut
  cases kq with
  | zero => exact absurd HA.out (by simp [pLeast.j0])
  | succ kj6 =>
   have H := HA.out
   clear HA
   simp only [pLeast.j0] at H
   have HC17 := aK H
   clear H
   go_upto_region 8 with (fail)
   go_cut [68] (fun v68 wc => ∃ (kq : Nat) (x68_16 : Bool), v68 = .bool x68_16 ∧ Aside0 (pLeast.j1 kq l0 a1 a2 a3 t101 t102 x68_16 = some r) ∧ Aside0 (kq ≤ kj6) ∧ Aside0 (Below w.heap.size w wc))
   case first =>
    have H := HC17.out
    clear HC17
    by_cases c18 : (t102 != x14_6) = true
    rotate_left
    ·
     rw [if_neg c18] at H
     have c18b0 : (t102 != x14_6) = false := by simpa using c18
     (try (have c18b1 : decide (t102 = x14_6) = true := by simpa using c18))
     (try (have c18b2 : (t102 == x14_6) = true := by simpa using c18))
     clear c18
     (first | rw [c18b0] | (simp only [i64_w, i32_w]; rw [c18b0]) | skip)
     by_cases c19 : t102 = true
     rotate_left
     ·
      replace c19 := Bool.eq_false_iff.mpr c19
      subst c19
      have H1 : (pLeast.j1 kj6 l0 a1 a2 a3 t101 false (t101 != 0)) = some r := by rw [if_neg (show ¬ (false = true) by decide)] at H; exact H
      clear H
      have H := H1
      clear H1
      have H' := aK H
      clear H
      go_wp2
      go_meet
      case rel => exact ⟨_, ((t101 != 0)), (by first | rfl | (simp; done) | (simp [*]; done)), H', ⟨by have := HJ6.out; first | omega | exact Nat.le_refl _⟩, ⟨by repeat (first | (with_reducible first | exact HB.out | apply bAl | apply pbD | apply bD1) | exact HB.out)⟩⟩
     subst c19
     have H1 : (pLeast.j1 kj6 l0 a1 a2 a3 t101 true false) = some r := by rw [if_pos rfl] at H; exact H
     clear H
     have H := H1
     clear H1
     have H' := aK H
     clear H
     go_wp2
     go_meet
     case rel => exact ⟨_, (false), (by first | rfl | (simp; done) | (simp [*]; done)), H', ⟨by have := HJ6.out; first | omega | exact Nat.le_refl _⟩, ⟨by repeat (first | (with_reducible first | exact HB.out | apply bAl | apply pbD | apply bD1) | exact HB.out)⟩⟩
    rw [if_pos c18] at H
    have c18b0 : (t102 != x14_6) = true := c18
    (try (have c18b1 : decide (t102 = x14_6) = false := by simpa using c18))
    (try (have c18b2 : (t102 == x14_6) = false := by simpa using c18))
    (try (have c18b3 : ¬ (t102 = x14_6) := by simpa using c18))
    clear c18
    (first | rw [c18b0] | (simp only [i64_w, i32_w]; rw [c18b0]) | skip)
    have H' := aK H
    clear H
    go_wp2
    go_meet
    case rel => exact ⟨_, (true), (by first | rfl | (simp; done) | (simp [*]; done)), H', ⟨by have := HJ6.out; first | omega | exact Nat.le_refl _⟩, ⟨by repeat (first | (with_reducible first | exact HB.out | apply bAl | apply pbD | apply bD1) | exact HB.out)⟩⟩
   case rest =>
    clear HC17
    try clear c1
    try clear c2
    try clear p2
    try clear c8
    try clear c10
    try clear c10b0
    try clear c10b1
    try clear c11
    try clear c11b0
    try clear c12
    try clear c12b0
    try clear c18
    try clear c18b0
    try clear c18b1
    try clear c18b2
    try clear c19
    try clear p2
    obtain ⟨kq, x68_16, rfl, HA, HJ16, HB⟩ := hcut
    cases kq with
    | zero => exact absurd HA.out (by simp [pLeast.j1])
    | succ kj16 =>
     have H := HA.out
     clear HA
     simp only [pLeast.j1] at H
     by_cases c20 : x68_16 = true
     rotate_left
     ·
      replace c20 := Bool.eq_false_iff.mpr c20
      subst c20
      have H1 : (if t102 = true then (if t101 < 0 then (pLeast.j2 kj16 l0 a1 a2 a3 t101 true) else (if t101 ≥ (l0.length : Int) then (pLeast.j2 kj16 l0 a1 a2 a3 t101 true) else (if 0 ≤ t101 then (if t101 < (l0.length : Int) then ((part_Eligible.f ((rd_T33 l0 t101).f0) ((rd_T33 l0 t101).f1) ((rd_T33 l0 t101).f2) ((rd_T33 l0 t101).f3) ((rd_T33 l0 t101).f4) a1 a2 a3).bind fun t106 => (if t106 = true then (pLeast.j2 kj16 l0 a1 a2 a3 t101 (decide ((((rd_T33 l0 t101).f1).size : Int) > a3))) else (pLeast.j2 kj16 l0 a1 a2 a3 t101 true))) else (none)) else (none)))) else ((w11_awake.f).bind fun t104 => (some t104))) = some r := by rw [if_neg (show ¬ (false = true) by decide)] at H; exact H
      clear H
      have H := H1
      clear H1
      by_cases c21 : t102 = true
      rotate_left
      ·
       replace c21 := Bool.eq_false_iff.mpr c21
       subst c21
       have H1 : ((w11_awake.f).bind fun t104 => (some t104)) = some r := by rw [if_neg (show ¬ (false = true) by decide)] at H; exact H
       clear H
       have H := H1
       clear H1
       replace H := oB H
       obtain ⟨t104, A530, H⟩ := H
       replace H : (some t104) = some r := H
       have A53 := aK A530
       clear A530
       obtain rfl := oI H
       go_wp2_with (first | ((with_reducible refine gate_callee (f := 26) rfl ?_); refine goesL_ (some 71) rfl rfl Try.func26 (by kernel_rfl) rfl #[] rfl (by (try simp only [qM0, qM1, qM2]); first | done | rfl | (simp only [qD0, qD1]; rfl)) ?_; (with_reducible refine (w11_awake.calls  t104 _ A53.out).mono ?_); rintro e w54 ⟨rfl, hb⟩; refine ⟨_, rfl, ?_⟩; have n0_ := aK (bSp (by repeat (first | (with_reducible first | exact HB.out | apply bAl | apply pbD | apply bD1) | exact HB.out)) hb); clear HB; have HB := n0_; clear n0_; (try clear hb); (try clear hb2); (try clear hk); (try clear hi)))
       go_ret
       exact ⟨by first | rfl | (simp [eWn, eWs] <;> rfl) | (simp [*, eWn, eWs] <;> rfl), bSp HB00.out (by repeat (first | (with_reducible first | exact HB.out | apply bAl | apply pbD | apply bD1) | exact HB.out))⟩
      subst c21
      have H1 : (if t101 < 0 then (pLeast.j2 kj16 l0 a1 a2 a3 t101 true) else (if t101 ≥ (l0.length : Int) then (pLeast.j2 kj16 l0 a1 a2 a3 t101 true) else (if 0 ≤ t101 then (if t101 < (l0.length : Int) then ((part_Eligible.f ((rd_T33 l0 t101).f0) ((rd_T33 l0 t101).f1) ((rd_T33 l0 t101).f2) ((rd_T33 l0 t101).f3) ((rd_T33 l0 t101).f4) a1 a2 a3).bind fun t106 => (if t106 = true then (pLeast.j2 kj16 l0 a1 a2 a3 t101 (decide ((((rd_T33 l0 t101).f1).size : Int) > a3))) else (pLeast.j2 kj16 l0 a1 a2 a3 t101 true))) else (none)) else (none)))) = some r := by rw [if_pos rfl] at H; exact H
      clear H
      have H := H1
      clear H1
      have HC22 := aK H
      clear H
      go_upto_region 12 with (fail)
      go_cut [100] (fun v100 wc => ∃ (kq : Nat) (x100_21 : Bool), v100 = .bool x100_21 ∧ Aside0 (pLeast.j2 kq l0 a1 a2 a3 t101 x100_21 = some r) ∧ Aside0 (kq ≤ kj16) ∧ Aside0 (Below w.heap.size w wc))
      case first =>
       have H := HC22.out
       clear HC22
       by_cases c23 : t101 < 0
       rotate_left
       ·
        rw [if_neg c23] at H
        have c23b0 : decide (t101 < 0) = false := decide_eq_false c23
        clear c23
        (first | rw [c23b0] | (simp only [i64_w, i32_w]; rw [c23b0]) | skip)
        by_cases c24 : t101 ≥ (l0.length : Int)
        rotate_left
        ·
         rw [if_neg c24] at H
         have c24b0 : decide ((l0.length : Int) ≤ t101) = false := decide_eq_false c24
         clear c24
         by_cases c25 : 0 ≤ t101
         rotate_left
         ·
          rw [if_neg c25] at H
          exact absurd H (by simp)
         rw [if_pos c25] at H
         have c25b0 : decide (0 ≤ t101) = true := decide_eq_true c25
         clear c25
         by_cases c26 : t101 < (l0.length : Int)
         rotate_left
         ·
          rw [if_neg c26] at H
          exact absurd H (by simp)
         rw [if_pos c26] at H
         have c26b0 : decide (t101 < (l0.length : Int)) = true := decide_eq_true c26
         clear c26
         replace H := oB H
         obtain ⟨t106, A270, H⟩ := H
         try dsimp only at H
         have A27 := aK A270
         clear A270
         by_cases c28 : t106 = true
         rotate_left
         ·
          replace c28 := Bool.eq_false_iff.mpr c28
          subst c28
          have H1 : (pLeast.j2 kj16 l0 a1 a2 a3 t101 true) = some r := by rw [if_neg (show ¬ (false = true) by decide)] at H; exact H
          clear H
          have H := H1
          clear H1
          have H' := aK H
          clear H
          have p105 : 0 ≤ (t101 : Int) := odT (by first | (with_reducible assumption) | assumption)
          have q105 : t101 < (l0.length : Int) := odT (by first | (with_reducible assumption) | assumption)
          obtain ⟨ad105, e105, hx105_0, hx105_1, hx105_2, hx105_3, hx105_4⟩ := at_T33 HR0.out t101 p105 q105
          cases e105
          replace hx105_0 := (HB.out.cell (World.block_lt_of_cell? w _ hx105_0)).trans hx105_0
          replace hx105_1 := (HB.out.cell (World.block_lt_of_cell? w _ hx105_1)).trans hx105_1
          replace hx105_2 := (HB.out.cell (World.block_lt_of_cell? w _ hx105_2)).trans hx105_2
          replace hx105_3 := (HB.out.cell (World.block_lt_of_cell? w _ hx105_3)).trans hx105_3
          replace hx105_4 := (HB.out.cell (World.block_lt_of_cell? w _ hx105_4)).trans hx105_4
          replace p105 := eq_true p105
          replace q105 := eq_true q105
          go_wp2_with (first | (go_at_call 31; (with_reducible refine (part_Eligible.calls ((rd_T33 l0 t101).f0) ((rd_T33 l0 t101).f1) ((rd_T33 l0 t101).f2) ((rd_T33 l0 t101).f3) ((rd_T33 l0 t101).f4) a1 a2 a3 false _ A27.out).mono ?_); rintro e w30 ⟨rfl, hb⟩; have n0_ := aK (bSp (by repeat (first | (with_reducible first | exact HB.out | apply bAl | apply pbD | apply bD1) | exact HB.out)) hb); clear HB; have HB := n0_; clear n0_; (try clear hb); (try clear hb2); (try clear hk); (try clear hi)))
          go_meet
          case rel => exact ⟨_, (true), (by first | rfl | (simp; done) | (simp [*]; done)), H', ⟨by have := HJ6.out; have := HJ16.out; first | omega | exact Nat.le_refl _⟩, ⟨by repeat (first | (with_reducible first | exact HB.out | apply bAl | apply pbD | apply bD1) | exact HB.out)⟩⟩
         subst c28
         have H1 : (pLeast.j2 kj16 l0 a1 a2 a3 t101 (decide ((((rd_T33 l0 t101).f1).size : Int) > a3))) = some r := by rw [if_pos rfl] at H; exact H
         clear H
         have H := H1
         clear H1
         have H' := aK H
         clear H
         have p105 : 0 ≤ (t101 : Int) := odT (by first | (with_reducible assumption) | assumption)
         have q105 : t101 < (l0.length : Int) := odT (by first | (with_reducible assumption) | assumption)
         obtain ⟨ad105, e105, hx105_0, hx105_1, hx105_2, hx105_3, hx105_4⟩ := at_T33 HR0.out t101 p105 q105
         cases e105
         replace hx105_0 := (HB.out.cell (World.block_lt_of_cell? w _ hx105_0)).trans hx105_0
         replace hx105_1 := (HB.out.cell (World.block_lt_of_cell? w _ hx105_1)).trans hx105_1
         replace hx105_2 := (HB.out.cell (World.block_lt_of_cell? w _ hx105_2)).trans hx105_2
         replace hx105_3 := (HB.out.cell (World.block_lt_of_cell? w _ hx105_3)).trans hx105_3
         replace hx105_4 := (HB.out.cell (World.block_lt_of_cell? w _ hx105_4)).trans hx105_4
         replace p105 := eq_true p105
         replace q105 := eq_true q105
         go_wp2_with (first | (go_at_call 31; (with_reducible refine (part_Eligible.calls ((rd_T33 l0 t101).f0) ((rd_T33 l0 t101).f1) ((rd_T33 l0 t101).f2) ((rd_T33 l0 t101).f3) ((rd_T33 l0 t101).f4) a1 a2 a3 true _ A27.out).mono ?_); rintro e w29 ⟨rfl, hb⟩; have n0_ := aK (bSp (by repeat (first | (with_reducible first | exact HB.out | apply bAl | apply pbD | apply bD1) | exact HB.out)) hb); clear HB; have HB := n0_; clear n0_; (try clear hb); (try clear hb2); (try clear hk); (try clear hi); have p107 : 0 ≤ (t101 : Int) := odT (by first | (with_reducible assumption) | assumption); have q107 : t101 < (l0.length : Int) := odT (by first | (with_reducible assumption) | assumption); obtain ⟨ad107, e107, hx107_0, hx107_1, hx107_2, hx107_3, hx107_4⟩ := at_T33 HR0.out t101 p107 q107; obtain rfl : ad105 = ad107 := (by injection e107); replace hx107_0 := (HB.out.cell (World.block_lt_of_cell? w _ hx107_0)).trans hx107_0; replace hx107_1 := (HB.out.cell (World.block_lt_of_cell? w _ hx107_1)).trans hx107_1; replace hx107_2 := (HB.out.cell (World.block_lt_of_cell? w _ hx107_2)).trans hx107_2; replace hx107_3 := (HB.out.cell (World.block_lt_of_cell? w _ hx107_3)).trans hx107_3; replace hx107_4 := (HB.out.cell (World.block_lt_of_cell? w _ hx107_4)).trans hx107_4; replace p107 := eq_true p107; replace q107 := eq_true q107))
         go_meet
         case rel => exact ⟨_, (decide ((((rd_T33 l0 t101).f1).size : Int) > a3)), (by first | rfl | (simp; done) | (simp [*]; done)), H', ⟨by have := HJ6.out; have := HJ16.out; first | omega | exact Nat.le_refl _⟩, ⟨by repeat (first | (with_reducible first | exact HB.out | apply bAl | apply pbD | apply bD1) | exact HB.out)⟩⟩
        rw [if_pos c24] at H
        have c24b0 : decide ((l0.length : Int) ≤ t101) = true := decide_eq_true c24
        clear c24
        have H' := aK H
        clear H
        go_wp2
        go_meet
        case rel => exact ⟨_, (true), (by first | rfl | (simp; done) | (simp [*]; done)), H', ⟨by have := HJ6.out; have := HJ16.out; first | omega | exact Nat.le_refl _⟩, ⟨by repeat (first | (with_reducible first | exact HB.out | apply bAl | apply pbD | apply bD1) | exact HB.out)⟩⟩
       rw [if_pos c23] at H
       have c23b0 : decide (t101 < 0) = true := decide_eq_true c23
       clear c23
       (first | rw [c23b0] | (simp only [i64_w, i32_w]; rw [c23b0]) | skip)
       have H' := aK H
       clear H
       go_wp2
       go_meet
       case rel => exact ⟨_, (true), (by first | rfl | (simp; done) | (simp [*]; done)), H', ⟨by have := HJ6.out; have := HJ16.out; first | omega | exact Nat.le_refl _⟩, ⟨by repeat (first | (with_reducible first | exact HB.out | apply bAl | apply pbD | apply bD1) | exact HB.out)⟩⟩
      case rest =>
       clear HC22
       try clear c1
       try clear p1
       try clear q1
       try clear hx1
       try clear c2
       try clear p2
       try clear c8
       try clear c10
       try clear c10b0
       try clear c10b1
       try clear p10
       try clear q10
       try clear hx10
       try clear c11
       try clear c11b0
       try clear c12
       try clear c12b0
       try clear c18
       try clear c18b0
       try clear c18b1
       try clear c18b2
       try clear c19
       try clear c20
       try clear c21
       try clear c23
       try clear c23b0
       try clear c24
       try clear c24b0
       try clear c25
       try clear c25b0
       try clear c26
       try clear c26b0
       try clear c28
       try clear c29
       try clear hx105_0
       try clear hx105_1
       try clear hx105_2
       try clear hx105_3
       try clear hx105_4
       try clear hx107_0
       try clear hx107_1
       try clear hx107_2
       try clear hx107_3
       try clear hx107_4
       try clear p105
       try clear p107
       try clear p2
       try clear q105
       try clear q107
       obtain ⟨kq, x100_21, rfl, HA, HJ21, HB⟩ := hcut
       cases kq with
       | zero => exact absurd HA.out (by simp [pLeast.j2])
       | succ kj21 =>
        have H := HA.out
        clear HA
        simp only [pLeast.j2] at H
        by_cases c31 : x100_21 = true
        rotate_left
        ·
         replace c31 := Bool.eq_false_iff.mpr c31
         subst c31
         have H1 : (pLeast.l0 kj21 l0 a1 a2 a3 t101 0) = some r := by rw [if_neg (show ¬ (false = true) by decide)] at H; exact H
         clear H
         have H := H1
         clear H1
         have H' := aK H
         clear H
         go_wp2
         go_loopg [15] kj21 (fun kq v15 w' => ∃ (x15_4 : Int), v15 = .int .i64 x15_4 ∧ Aside0 (pLeast.l0 kq l0 a1 a2 a3 t101 x15_4 = some r) ∧ Aside0 (kq ≤ kj21) ∧ Aside0 (Below w.heap.size w w'))
         case atStart => exact ⟨(0), (by first | rfl | (simp; done) | (simp [*]; done)), H', ⟨Nat.le_refl _⟩, ⟨by repeat (first | (with_reducible first | exact HB.out | apply bAl | apply pbD | apply bD1) | exact HB.out)⟩⟩
         case round =>
          clear H'
          try clear c1
          try clear p1
          try clear q1
          try clear hx1
          try clear c2
          try clear p2
          try clear c3
          try clear c8
          try clear c10
          try clear c10b0
          try clear c10b1
          try clear p10
          try clear q10
          try clear hx10
          try clear c11
          try clear c11b0
          try clear c12
          try clear c12b0
          try clear c18
          try clear c18b0
          try clear c18b1
          try clear c18b2
          try clear c19
          try clear c20
          try clear c21
          try clear c23
          try clear c23b0
          try clear c24
          try clear c24b0
          try clear c25
          try clear c25b0
          try clear c26
          try clear c26b0
          try clear c28
          try clear c29
          try clear c31
          try clear hx105_0
          try clear hx105_1
          try clear hx105_2
          try clear hx105_3
          try clear hx105_4
          try clear hx107_0
          try clear hx107_1
          try clear hx107_2
          try clear hx107_3
          try clear hx107_4
          try clear p1
          try clear p10
          try clear p105
          try clear p107
          try clear p2
          try clear q1
          try clear q10
          try clear q105
          try clear q107
          obtain ⟨x15_4, rfl, HA, HK4, HB⟩ := hrel
          cases gk with
          | zero => exact absurd HA.out (by simp [pLeast.l0])
          | succ k4 =>
           have H := HA.out
           clear HA
           simp only [pLeast.l0] at H
           by_cases c32 : x15_4 < (l0.length : Int)
           rotate_left
           ·
            rw [if_neg c32] at H
            have c32b0 : decide (x15_4 < (l0.length : Int)) = false := decide_eq_false c32
            clear c32
            replace H := oB H
            obtain ⟨t118, A510, H⟩ := H
            replace H : (some t118) = some r := H
            have A51 := aK A510
            clear A510
            obtain rfl := oI H
            go_wp2_with (first | ((with_reducible refine gate_callee (f := 26) rfl ?_); refine goesL_ (some 176) rfl rfl Try.func26 (by kernel_rfl) rfl #[] rfl (by (try simp only [qM0, qM1, qM2]); first | done | rfl | (simp only [qD0, qD1]; rfl)) ?_; (with_reducible refine (w11_awake.calls  t118 _ A51.out).mono ?_); rintro e w52 ⟨rfl, hb⟩; refine ⟨_, rfl, ?_⟩; have n0_ := aK (bSp (by repeat (first | (with_reducible first | exact HB.out | apply bAl | apply pbD | apply bD1) | exact HB.out)) hb); clear HB; have HB := n0_; clear n0_; (try clear hb); (try clear hb2); (try clear hk); (try clear hi)))
            go_ret
            exact ⟨by first | rfl | (simp [eWn, eWs] <;> rfl) | (simp [*, eWn, eWs] <;> rfl), bSp HB00.out (by repeat (first | (with_reducible first | exact HB.out | apply bAl | apply pbD | apply bD1) | exact HB.out))⟩
           rw [if_pos c32] at H
           have c32b0 : decide (x15_4 < (l0.length : Int)) = true := decide_eq_true c32
           clear c32
           by_cases c33 : 0 ≤ x15_4
           rotate_left
           ·
            rw [if_neg c33] at H
            exact absurd H (by simp)
           rw [if_pos c33] at H
           have c33b0 : decide (0 ≤ x15_4) = true := decide_eq_true c33
           clear c33
           replace H := oB H
           obtain ⟨t109, A340, H⟩ := H
           try dsimp only at H
           have A34 := aK A340
           clear A340
           by_cases c35 : t109 = true
           rotate_left
           ·
            replace c35 := Bool.eq_false_iff.mpr c35
            subst c35
            have H1 : (pLeast.l0 k4 l0 a1 a2 a3 t101 (wrap64 (x15_4 + 1))) = some r := by rw [if_neg (show ¬ (false = true) by decide)] at H; exact H
            clear H
            have H := H1
            clear H1
            have H' := aK H
            clear H
            try go_wp2
            have n0_ := aK (bD1 HB.out)
            clear HB
            have HB := n0_
            clear n0_
            have p108 : 0 ≤ (x15_4 : Int) := odT (by first | (with_reducible assumption) | assumption)
            have q108 : x15_4 < (l0.length : Int) := odT (by first | (with_reducible assumption) | assumption)
            obtain ⟨ad108, e108, hx108_0, hx108_1, hx108_2, hx108_3, hx108_4⟩ := at_T33 HR0.out x15_4 p108 q108
            have hw108_4 := hx108_4
            have hw108_3 := hx108_3
            have hw108_2 := hx108_2
            have hw108_1 := hx108_1
            have hw108_0 := hx108_0
            cases e108
            replace hx108_0 := (HB.out.cell (World.block_lt_of_cell? w _ hx108_0)).trans hx108_0
            replace hx108_1 := (HB.out.cell (World.block_lt_of_cell? w _ hx108_1)).trans hx108_1
            replace hx108_2 := (HB.out.cell (World.block_lt_of_cell? w _ hx108_2)).trans hx108_2
            replace hx108_3 := (HB.out.cell (World.block_lt_of_cell? w _ hx108_3)).trans hx108_3
            replace hx108_4 := (HB.out.cell (World.block_lt_of_cell? w _ hx108_4)).trans hx108_4
            replace p108 := eq_true p108
            replace q108 := eq_true q108
            as_aux_lemma =>
             refine start_ (n := 69) (S := fun w' => w'.cell? (ad108.add ((x15_4).toNat * 5)) = some (.int .i64 ((rd_T33 l0 x15_4).f0)) ∧ w'.cell? ⟨(ad108.add ((x15_4).toNat * 5)).block, (ad108.add ((x15_4).toNat * 5)).off + 1, none⟩ = some (.string ((rd_T33 l0 x15_4).f1)) ∧ w'.cell? ⟨(ad108.add ((x15_4).toNat * 5)).block, (ad108.add ((x15_4).toNat * 5)).off + 2, none⟩ = some (.string ((rd_T33 l0 x15_4).f2)) ∧ w'.cell? ⟨(ad108.add ((x15_4).toNat * 5)).block, (ad108.add ((x15_4).toNat * 5)).off + 3, none⟩ = some (.int .i64 ((rd_T33 l0 x15_4).f3)) ∧ w'.cell? ⟨(ad108.add ((x15_4).toNat * 5)).block, (ad108.add ((x15_4).toNat * 5)).off + 4, none⟩ = some (.int .i64 ((rd_T33 l0 x15_4).f4))) (ds := []) (bl 69 0) (by kernel_rfl) rfl (by kernel_rfl) ⟨((HB.out.cell (World.block_lt_of_cell? w _ hw108_0)).trans hw108_0), ((HB.out.cell (World.block_lt_of_cell? w _ hw108_1)).trans hw108_1), ((HB.out.cell (World.block_lt_of_cell? w _ hw108_2)).trans hw108_2), ((HB.out.cell (World.block_lt_of_cell? w _ hw108_3)).trans hw108_3), ((HB.out.cell (World.block_lt_of_cell? w _ hw108_4)).trans hw108_4)⟩ (fun hHeld => ?_); refine with_tabW pLeast.tab17 pLeast.bits17 (fun HT_ HW_ => ?_)
             generalize wr.drew = w49 at HB hx108_0 hx108_1 hx108_2 hx108_3 hx108_4 hHeld ⊢
             refine pV 0 107 (bl 69 1) HT_.out ?_
             refine pV 1 108 (bl 69 3) HT_.out ?_
             refine pV 2 109 (bl 69 7) HT_.out ?_
             refine pV 4 111 (bl 69 23) HT_.out ?_
             refine pV 5 112 (bl 69 55) HT_.out ?_
             refine pV 6 113 (bl 69 119) HT_.out ?_
             refine tV 3 110 (bl 69 127) HT_.out HW_.out hHeld ?_ (hv := by rintro w' ⟨s0, s1, s2, s3, s4⟩; go_simp; with_reducible rfl)
             refine one_ (i := 7) (N := some 114) (bl 69 255) rfl rfl (one_of HT_.out (by kernel_rfl)) (by decide) (fun K hK => ?_)
             refine goes_ Try.func31 (by kernel_rfl) rfl #[.agg #[.int .i64 ((rd_T33 l0 x15_4).f0), .string ((rd_T33 l0 x15_4).f1), .string ((rd_T33 l0 x15_4).f2), .int .i64 ((rd_T33 l0 x15_4).f3), .int .i64 ((rd_T33 l0 x15_4).f4)], .string a1, .int .i64 a2, .int .i64 a3] (by rfl) rfl rfl (by (try simp only [qM0, qM1, qM2]); first | done | rfl | (simp only [qD0, qD1]; rfl)) ?_
             with_reducible refine (part_Eligible.calls ((rd_T33 l0 x15_4).f0) ((rd_T33 l0 x15_4).f1) ((rd_T33 l0 x15_4).f2) ((rd_T33 l0 x15_4).f3) ((rd_T33 l0 x15_4).f4) a1 a2 a3 false _ A34.out).mono ?_
             rintro e w50 ⟨rfl, hb⟩
             refine ⟨_, rfl, ?_⟩
             have n0_ := aK (bSp (by repeat (first | (with_reducible first | exact HB.out | apply bAl | apply pbD | apply bD1) | exact HB.out)) hb)
             clear HB
             have HB := n0_
             clear n0_
             (try clear hb)
             (try clear hb2)
             (try clear hk)
             (try clear hi)
             refine hK.out _ _ ⟨((HB.out.cell (World.block_lt_of_cell? w _ hw108_0)).trans hw108_0), ((HB.out.cell (World.block_lt_of_cell? w _ hw108_1)).trans hw108_1), ((HB.out.cell (World.block_lt_of_cell? w _ hw108_2)).trans hw108_2), ((HB.out.cell (World.block_lt_of_cell? w _ hw108_3)).trans hw108_3), ((HB.out.cell (World.block_lt_of_cell? w _ hw108_4)).trans hw108_4)⟩ (fun hHeld => ?_)
             clear hK K
             refine norm_ (a' := ?_) ?_ ?_
             rotate_left
             ·
              show Act.put _ (some 114) _ = _
              simp only [Act.put, qSa, qS0, qS1, i64_w, i32_w]
              rfl
             refine pV 8 115 (bl 69 511) HT_.out ?_
             refine pU 9 116 (bl 69 1023) HT_.out ?_
             refine pU 10 117 (bl 69 2047) HT_.out ?_
             refine pU 11 118 (bl 69 4095) HT_.out ?_
             refine pU 12 119 (bl 69 8191) HT_.out ?_
             refine pU 13 120 (bl 69 16383) HT_.out ?_
             refine pU 14 121 (bl 69 32767) HT_.out ?_
             refine pU 15 122 (bl 69 65535) HT_.out ?_
             refine pU 16 123 (bl 69 131071) HT_.out ?_
             refine pU 17 124 (bl 69 262143) HT_.out ?_
             refine pU 18 125 (bl 69 524287) HT_.out ?_
             refine pU 19 126 (bl 69 1048575) HT_.out ?_
             refine pU 20 127 (bl 69 2097151) HT_.out ?_
             refine pU 21 128 (bl 69 4194303) HT_.out ?_
             refine pU 22 129 (bl 69 8388607) HT_.out ?_
             refine pU 23 130 (bl 69 16777215) HT_.out ?_
             refine pU 24 131 (bl 69 33554431) HT_.out ?_
             refine pU 25 132 (bl 69 67108863) HT_.out ?_
             refine pU 26 133 (bl 69 134217727) HT_.out ?_
             refine pU 27 134 (bl 69 268435455) HT_.out ?_
             refine pU 28 135 (bl 69 536870911) HT_.out ?_
             refine pU 29 136 (bl 69 1073741823) HT_.out ?_
             refine pU 30 137 (bl 69 2147483647) HT_.out ?_
             refine pU 31 138 (bl 69 4294967295) HT_.out ?_
             refine pU 32 139 (bl 69 8589934591) HT_.out ?_
             refine pU 33 140 (bl 69 17179869183) HT_.out ?_
             refine pU 34 141 (bl 69 34359738367) HT_.out ?_
             refine pU 35 142 (bl 69 68719476735) HT_.out ?_
             refine pU 36 143 (bl 69 137438953471) HT_.out ?_
             refine pU 37 144 (bl 69 274877906943) HT_.out ?_
             refine pU 38 145 (bl 69 549755813887) HT_.out ?_
             refine pU 39 146 (bl 69 1099511627775) HT_.out ?_
             refine pU 40 147 (bl 69 2199023255551) HT_.out ?_
             refine pU 41 148 (bl 69 4398046511103) HT_.out ?_
             refine pU 42 149 (bl 69 8796093022207) HT_.out ?_
             refine pU 43 150 (bl 69 17592186044415) HT_.out ?_
             refine pU 44 151 (bl 69 35184372088831) HT_.out ?_
             refine pU 45 152 (bl 69 70368744177663) HT_.out ?_
             refine pU 46 153 (bl 69 140737488355327) HT_.out ?_
             refine pU 47 154 (bl 69 281474976710655) HT_.out ?_
             refine pU 48 155 (bl 69 562949953421311) HT_.out ?_
             refine pU 49 156 (bl 69 1125899906842623) HT_.out ?_
             refine pU 50 157 (bl 69 2251799813685247) HT_.out ?_
             refine pU 51 158 (bl 69 4503599627370495) HT_.out ?_
             refine pU 52 159 (bl 69 9007199254740991) HT_.out ?_
             refine pU 53 160 (bl 69 18014398509481983) HT_.out ?_
             refine pU 54 161 (bl 69 36028797018963967) HT_.out ?_
             refine pU 55 162 (bl 69 72057594037927935) HT_.out ?_
             refine pU 56 163 (bl 69 144115188075855871) HT_.out ?_
             refine pU 57 164 (bl 69 288230376151711743) HT_.out ?_
             refine pU 58 165 (bl 69 576460752303423487) HT_.out ?_
             refine pU 59 166 (bl 69 1152921504606846975) HT_.out ?_
             refine pU 60 167 (bl 69 2305843009213693951) HT_.out ?_
             refine pU 61 168 (bl 69 4611686018427387903) HT_.out ?_
             refine pU 62 169 (bl 69 9223372036854775807) HT_.out ?_
             refine pU 63 170 (bl 69 18446744073709551615) HT_.out ?_
             refine pU 64 171 (bl 69 36893488147419103231) HT_.out ?_
             refine pU 65 172 (bl 69 73786976294838206463) HT_.out ?_
             refine pU 66 173 (bl 69 147573952589676412927) HT_.out ?_
             refine pU 67 174 (bl 69 295147905179352825855) HT_.out ?_
             refine pV 68 175 (bl 69 590295810358705651711) HT_.out ?_
             refine done_ (done_of HT_.out (by kernel_rfl)) ?_
             try go_wp2
             go_roundg k4
             case measure => have := HJ6.out; have := HJ16.out; have := HJ21.out; have := HK4.out; omega
             case rel => exact ⟨(wrap64 (x15_4 + 1)), (by first | rfl | (simp; done) | (simp [*]; done)), H', ⟨by have := HJ6.out; have := HJ16.out; have := HJ21.out; have := HK4.out; omega⟩, ⟨by repeat (first | (with_reducible first | exact HB.out | apply bAl | apply pbD | apply bD1) | exact HB.out)⟩⟩
           subst c35
           have H1 : (if 0 ≤ t101 then (if t101 < (l0.length : Int) then (if ((rd_T33 l0 x15_4).f3) < ((rd_T33 l0 t101).f3) then (some false) else (if ((rd_T33 l0 x15_4).f3) = ((rd_T33 l0 t101).f3) then (if (((rd_T33 l0 x15_4).f1).size : Int) > (((rd_T33 l0 t101).f1).size : Int) then (some false) else (if (((rd_T33 l0 x15_4).f1).size : Int) = (((rd_T33 l0 t101).f1).size : Int) then (if x15_4 < t101 then (some false) else (pLeast.l0 k4 l0 a1 a2 a3 t101 (wrap64 (x15_4 + 1)))) else (pLeast.l0 k4 l0 a1 a2 a3 t101 (wrap64 (x15_4 + 1))))) else (pLeast.l0 k4 l0 a1 a2 a3 t101 (wrap64 (x15_4 + 1))))) else (none)) else (none)) = some r := by rw [if_pos rfl] at H; exact H
           clear H
           have H := H1
           clear H1
           by_cases c36 : 0 ≤ t101
           rotate_left
           ·
            rw [if_neg c36] at H
            exact absurd H (by simp)
           rw [if_pos c36] at H
           have c36b0 : decide (0 ≤ t101) = true := decide_eq_true c36
           clear c36
           by_cases c37 : t101 < (l0.length : Int)
           rotate_left
           ·
            rw [if_neg c37] at H
            exact absurd H (by simp)
           rw [if_pos c37] at H
           have c37b0 : decide (t101 < (l0.length : Int)) = true := decide_eq_true c37
           clear c37
           by_cases c38 : ((rd_T33 l0 x15_4).f3) < ((rd_T33 l0 t101).f3)
           rotate_left
           ·
            rw [if_neg c38] at H
            have c38b0 : decide (((rd_T33 l0 x15_4).f3) < ((rd_T33 l0 t101).f3)) = false := decide_eq_false c38
            clear c38
            by_cases c39 : ((rd_T33 l0 x15_4).f3) = ((rd_T33 l0 t101).f3)
            rotate_left
            ·
             rw [if_neg c39] at H
             have c39b0 : (((rd_T33 l0 x15_4).f3) == ((rd_T33 l0 t101).f3)) = false := beq_eq_false_iff_ne.mpr c39
             have c39b1 : (((rd_T33 l0 x15_4).f3) != ((rd_T33 l0 t101).f3)) = true := bne_iff_ne.mpr c39
             have H' := aK H
             clear H
             try go_wp2
             have n0_ := aK (bD1 HB.out)
             clear HB
             have HB := n0_
             clear n0_
             have p108 : 0 ≤ (x15_4 : Int) := odT (by first | (with_reducible assumption) | assumption)
             have q108 : x15_4 < (l0.length : Int) := odT (by first | (with_reducible assumption) | assumption)
             obtain ⟨ad108, e108, hx108_0, hx108_1, hx108_2, hx108_3, hx108_4⟩ := at_T33 HR0.out x15_4 p108 q108
             have hw108_4 := hx108_4
             have hw108_3 := hx108_3
             have hw108_2 := hx108_2
             have hw108_1 := hx108_1
             have hw108_0 := hx108_0
             cases e108
             replace hx108_0 := (HB.out.cell (World.block_lt_of_cell? w _ hx108_0)).trans hx108_0
             replace hx108_1 := (HB.out.cell (World.block_lt_of_cell? w _ hx108_1)).trans hx108_1
             replace hx108_2 := (HB.out.cell (World.block_lt_of_cell? w _ hx108_2)).trans hx108_2
             replace hx108_3 := (HB.out.cell (World.block_lt_of_cell? w _ hx108_3)).trans hx108_3
             replace hx108_4 := (HB.out.cell (World.block_lt_of_cell? w _ hx108_4)).trans hx108_4
             replace p108 := eq_true p108
             replace q108 := eq_true q108
             have p110 : 0 ≤ (x15_4 : Int) := odT (by first | (with_reducible assumption) | assumption)
             have q110 : x15_4 < (l0.length : Int) := odT (by first | (with_reducible assumption) | assumption)
             obtain ⟨ad110, e110, hx110_0, hx110_1, hx110_2, hx110_3, hx110_4⟩ := at_T33 HR0.out x15_4 p110 q110
             have hw110_4 := hx110_4
             have hw110_3 := hx110_3
             have hw110_2 := hx110_2
             have hw110_1 := hx110_1
             have hw110_0 := hx110_0
             obtain rfl : ad108 = ad110 := (by injection e110)
             replace hx110_0 := (HB.out.cell (World.block_lt_of_cell? w _ hx110_0)).trans hx110_0
             replace hx110_1 := (HB.out.cell (World.block_lt_of_cell? w _ hx110_1)).trans hx110_1
             replace hx110_2 := (HB.out.cell (World.block_lt_of_cell? w _ hx110_2)).trans hx110_2
             replace hx110_3 := (HB.out.cell (World.block_lt_of_cell? w _ hx110_3)).trans hx110_3
             replace hx110_4 := (HB.out.cell (World.block_lt_of_cell? w _ hx110_4)).trans hx110_4
             replace p110 := eq_true p110
             replace q110 := eq_true q110
             have p111 : 0 ≤ (t101 : Int) := odT (by first | (with_reducible assumption) | assumption)
             have q111 : t101 < (l0.length : Int) := odT (by first | (with_reducible assumption) | assumption)
             obtain ⟨ad111, e111, hx111_0, hx111_1, hx111_2, hx111_3, hx111_4⟩ := at_T33 HR0.out t101 p111 q111
             have hw111_4 := hx111_4
             have hw111_3 := hx111_3
             have hw111_2 := hx111_2
             have hw111_1 := hx111_1
             have hw111_0 := hx111_0
             obtain rfl : ad108 = ad111 := (by injection e111)
             replace hx111_0 := (HB.out.cell (World.block_lt_of_cell? w _ hx111_0)).trans hx111_0
             replace hx111_1 := (HB.out.cell (World.block_lt_of_cell? w _ hx111_1)).trans hx111_1
             replace hx111_2 := (HB.out.cell (World.block_lt_of_cell? w _ hx111_2)).trans hx111_2
             replace hx111_3 := (HB.out.cell (World.block_lt_of_cell? w _ hx111_3)).trans hx111_3
             replace hx111_4 := (HB.out.cell (World.block_lt_of_cell? w _ hx111_4)).trans hx111_4
             replace p111 := eq_true p111
             replace q111 := eq_true q111
             have p112 : 0 ≤ (x15_4 : Int) := odT (by first | (with_reducible assumption) | assumption)
             have q112 : x15_4 < (l0.length : Int) := odT (by first | (with_reducible assumption) | assumption)
             obtain ⟨ad112, e112, hx112_0, hx112_1, hx112_2, hx112_3, hx112_4⟩ := at_T33 HR0.out x15_4 p112 q112
             have hw112_4 := hx112_4
             have hw112_3 := hx112_3
             have hw112_2 := hx112_2
             have hw112_1 := hx112_1
             have hw112_0 := hx112_0
             obtain rfl : ad108 = ad112 := (by injection e112)
             replace hx112_0 := (HB.out.cell (World.block_lt_of_cell? w _ hx112_0)).trans hx112_0
             replace hx112_1 := (HB.out.cell (World.block_lt_of_cell? w _ hx112_1)).trans hx112_1
             replace hx112_2 := (HB.out.cell (World.block_lt_of_cell? w _ hx112_2)).trans hx112_2
             replace hx112_3 := (HB.out.cell (World.block_lt_of_cell? w _ hx112_3)).trans hx112_3
             replace hx112_4 := (HB.out.cell (World.block_lt_of_cell? w _ hx112_4)).trans hx112_4
             replace p112 := eq_true p112
             replace q112 := eq_true q112
             have p113 : 0 ≤ (t101 : Int) := odT (by first | (with_reducible assumption) | assumption)
             have q113 : t101 < (l0.length : Int) := odT (by first | (with_reducible assumption) | assumption)
             obtain ⟨ad113, e113, hx113_0, hx113_1, hx113_2, hx113_3, hx113_4⟩ := at_T33 HR0.out t101 p113 q113
             have hw113_4 := hx113_4
             have hw113_3 := hx113_3
             have hw113_2 := hx113_2
             have hw113_1 := hx113_1
             have hw113_0 := hx113_0
             obtain rfl : ad108 = ad113 := (by injection e113)
             replace hx113_0 := (HB.out.cell (World.block_lt_of_cell? w _ hx113_0)).trans hx113_0
             replace hx113_1 := (HB.out.cell (World.block_lt_of_cell? w _ hx113_1)).trans hx113_1
             replace hx113_2 := (HB.out.cell (World.block_lt_of_cell? w _ hx113_2)).trans hx113_2
             replace hx113_3 := (HB.out.cell (World.block_lt_of_cell? w _ hx113_3)).trans hx113_3
             replace hx113_4 := (HB.out.cell (World.block_lt_of_cell? w _ hx113_4)).trans hx113_4
             replace p113 := eq_true p113
             replace q113 := eq_true q113
             as_aux_lemma =>
              refine start_ (n := 69) (S := fun w' => w'.cell? (ad108.add ((x15_4).toNat * 5)) = some (.int .i64 ((rd_T33 l0 x15_4).f0)) ∧ w'.cell? ⟨(ad108.add ((x15_4).toNat * 5)).block, (ad108.add ((x15_4).toNat * 5)).off + 1, none⟩ = some (.string ((rd_T33 l0 x15_4).f1)) ∧ w'.cell? ⟨(ad108.add ((x15_4).toNat * 5)).block, (ad108.add ((x15_4).toNat * 5)).off + 2, none⟩ = some (.string ((rd_T33 l0 x15_4).f2)) ∧ w'.cell? ⟨(ad108.add ((x15_4).toNat * 5)).block, (ad108.add ((x15_4).toNat * 5)).off + 3, none⟩ = some (.int .i64 ((rd_T33 l0 x15_4).f3)) ∧ w'.cell? ⟨(ad108.add ((x15_4).toNat * 5)).block, (ad108.add ((x15_4).toNat * 5)).off + 4, none⟩ = some (.int .i64 ((rd_T33 l0 x15_4).f4)) ∧ w'.cell? (ad108.add ((x15_4).toNat * 5)) = some (.int .i64 ((rd_T33 l0 x15_4).f0)) ∧ w'.cell? ⟨(ad108.add ((x15_4).toNat * 5)).block, (ad108.add ((x15_4).toNat * 5)).off + 1, none⟩ = some (.string ((rd_T33 l0 x15_4).f1)) ∧ w'.cell? ⟨(ad108.add ((x15_4).toNat * 5)).block, (ad108.add ((x15_4).toNat * 5)).off + 2, none⟩ = some (.string ((rd_T33 l0 x15_4).f2)) ∧ w'.cell? ⟨(ad108.add ((x15_4).toNat * 5)).block, (ad108.add ((x15_4).toNat * 5)).off + 3, none⟩ = some (.int .i64 ((rd_T33 l0 x15_4).f3)) ∧ w'.cell? ⟨(ad108.add ((x15_4).toNat * 5)).block, (ad108.add ((x15_4).toNat * 5)).off + 4, none⟩ = some (.int .i64 ((rd_T33 l0 x15_4).f4)) ∧ w'.cell? (ad108.add ((t101).toNat * 5)) = some (.int .i64 ((rd_T33 l0 t101).f0)) ∧ w'.cell? ⟨(ad108.add ((t101).toNat * 5)).block, (ad108.add ((t101).toNat * 5)).off + 1, none⟩ = some (.string ((rd_T33 l0 t101).f1)) ∧ w'.cell? ⟨(ad108.add ((t101).toNat * 5)).block, (ad108.add ((t101).toNat * 5)).off + 2, none⟩ = some (.string ((rd_T33 l0 t101).f2)) ∧ w'.cell? ⟨(ad108.add ((t101).toNat * 5)).block, (ad108.add ((t101).toNat * 5)).off + 3, none⟩ = some (.int .i64 ((rd_T33 l0 t101).f3)) ∧ w'.cell? ⟨(ad108.add ((t101).toNat * 5)).block, (ad108.add ((t101).toNat * 5)).off + 4, none⟩ = some (.int .i64 ((rd_T33 l0 t101).f4)) ∧ w'.cell? (ad108.add ((x15_4).toNat * 5)) = some (.int .i64 ((rd_T33 l0 x15_4).f0)) ∧ w'.cell? ⟨(ad108.add ((x15_4).toNat * 5)).block, (ad108.add ((x15_4).toNat * 5)).off + 1, none⟩ = some (.string ((rd_T33 l0 x15_4).f1)) ∧ w'.cell? ⟨(ad108.add ((x15_4).toNat * 5)).block, (ad108.add ((x15_4).toNat * 5)).off + 2, none⟩ = some (.string ((rd_T33 l0 x15_4).f2)) ∧ w'.cell? ⟨(ad108.add ((x15_4).toNat * 5)).block, (ad108.add ((x15_4).toNat * 5)).off + 3, none⟩ = some (.int .i64 ((rd_T33 l0 x15_4).f3)) ∧ w'.cell? ⟨(ad108.add ((x15_4).toNat * 5)).block, (ad108.add ((x15_4).toNat * 5)).off + 4, none⟩ = some (.int .i64 ((rd_T33 l0 x15_4).f4)) ∧ w'.cell? (ad108.add ((t101).toNat * 5)) = some (.int .i64 ((rd_T33 l0 t101).f0)) ∧ w'.cell? ⟨(ad108.add ((t101).toNat * 5)).block, (ad108.add ((t101).toNat * 5)).off + 1, none⟩ = some (.string ((rd_T33 l0 t101).f1)) ∧ w'.cell? ⟨(ad108.add ((t101).toNat * 5)).block, (ad108.add ((t101).toNat * 5)).off + 2, none⟩ = some (.string ((rd_T33 l0 t101).f2)) ∧ w'.cell? ⟨(ad108.add ((t101).toNat * 5)).block, (ad108.add ((t101).toNat * 5)).off + 3, none⟩ = some (.int .i64 ((rd_T33 l0 t101).f3)) ∧ w'.cell? ⟨(ad108.add ((t101).toNat * 5)).block, (ad108.add ((t101).toNat * 5)).off + 4, none⟩ = some (.int .i64 ((rd_T33 l0 t101).f4))) (ds := []) (bl 69 0) (by kernel_rfl) rfl (by kernel_rfl) ⟨((HB.out.cell (World.block_lt_of_cell? w _ hw108_0)).trans hw108_0), ((HB.out.cell (World.block_lt_of_cell? w _ hw108_1)).trans hw108_1), ((HB.out.cell (World.block_lt_of_cell? w _ hw108_2)).trans hw108_2), ((HB.out.cell (World.block_lt_of_cell? w _ hw108_3)).trans hw108_3), ((HB.out.cell (World.block_lt_of_cell? w _ hw108_4)).trans hw108_4), ((HB.out.cell (World.block_lt_of_cell? w _ hw110_0)).trans hw110_0), ((HB.out.cell (World.block_lt_of_cell? w _ hw110_1)).trans hw110_1), ((HB.out.cell (World.block_lt_of_cell? w _ hw110_2)).trans hw110_2), ((HB.out.cell (World.block_lt_of_cell? w _ hw110_3)).trans hw110_3), ((HB.out.cell (World.block_lt_of_cell? w _ hw110_4)).trans hw110_4), ((HB.out.cell (World.block_lt_of_cell? w _ hw111_0)).trans hw111_0), ((HB.out.cell (World.block_lt_of_cell? w _ hw111_1)).trans hw111_1), ((HB.out.cell (World.block_lt_of_cell? w _ hw111_2)).trans hw111_2), ((HB.out.cell (World.block_lt_of_cell? w _ hw111_3)).trans hw111_3), ((HB.out.cell (World.block_lt_of_cell? w _ hw111_4)).trans hw111_4), ((HB.out.cell (World.block_lt_of_cell? w _ hw112_0)).trans hw112_0), ((HB.out.cell (World.block_lt_of_cell? w _ hw112_1)).trans hw112_1), ((HB.out.cell (World.block_lt_of_cell? w _ hw112_2)).trans hw112_2), ((HB.out.cell (World.block_lt_of_cell? w _ hw112_3)).trans hw112_3), ((HB.out.cell (World.block_lt_of_cell? w _ hw112_4)).trans hw112_4), ((HB.out.cell (World.block_lt_of_cell? w _ hw113_0)).trans hw113_0), ((HB.out.cell (World.block_lt_of_cell? w _ hw113_1)).trans hw113_1), ((HB.out.cell (World.block_lt_of_cell? w _ hw113_2)).trans hw113_2), ((HB.out.cell (World.block_lt_of_cell? w _ hw113_3)).trans hw113_3), ((HB.out.cell (World.block_lt_of_cell? w _ hw113_4)).trans hw113_4)⟩ (fun hHeld => ?_); refine with_tabW pLeast.tab17 pLeast.bits17 (fun HT_ HW_ => ?_)
              generalize wr.drew = w47 at HB hx108_0 hx108_1 hx108_2 hx108_3 hx108_4 hx110_0 hx110_1 hx110_2 hx110_3 hx110_4 hx111_0 hx111_1 hx111_2 hx111_3 hx111_4 hx112_0 hx112_1 hx112_2 hx112_3 hx112_4 hx113_0 hx113_1 hx113_2 hx113_3 hx113_4 hHeld ⊢
              refine pV 0 107 (bl 69 1) HT_.out ?_
              refine pV 1 108 (bl 69 3) HT_.out ?_
              refine pV 2 109 (bl 69 7) HT_.out ?_
              refine pV 4 111 (bl 69 23) HT_.out ?_
              refine pV 5 112 (bl 69 55) HT_.out ?_
              refine pV 6 113 (bl 69 119) HT_.out ?_
              refine tV 3 110 (bl 69 127) HT_.out HW_.out hHeld ?_ (hv := by rintro w' ⟨s0, s1, s2, s3, s4, s5, s6, s7, s8, s9, s10, s11, s12, s13, s14, s15, s16, s17, s18, s19, s20, s21, s22, s23, s24⟩; go_simp; with_reducible rfl)
              refine one_ (i := 7) (N := some 114) (bl 69 255) rfl rfl (one_of HT_.out (by kernel_rfl)) (by decide) (fun K hK => ?_)
              refine goes_ Try.func31 (by kernel_rfl) rfl #[.agg #[.int .i64 ((rd_T33 l0 x15_4).f0), .string ((rd_T33 l0 x15_4).f1), .string ((rd_T33 l0 x15_4).f2), .int .i64 ((rd_T33 l0 x15_4).f3), .int .i64 ((rd_T33 l0 x15_4).f4)], .string a1, .int .i64 a2, .int .i64 a3] (by rfl) rfl rfl (by (try simp only [qM0, qM1, qM2]); first | done | rfl | (simp only [qD0, qD1]; rfl)) ?_
              with_reducible refine (part_Eligible.calls ((rd_T33 l0 x15_4).f0) ((rd_T33 l0 x15_4).f1) ((rd_T33 l0 x15_4).f2) ((rd_T33 l0 x15_4).f3) ((rd_T33 l0 x15_4).f4) a1 a2 a3 true _ A34.out).mono ?_
              rintro e w48 ⟨rfl, hb⟩
              refine ⟨_, rfl, ?_⟩
              have n0_ := aK (bSp (by repeat (first | (with_reducible first | exact HB.out | apply bAl | apply pbD | apply bD1) | exact HB.out)) hb)
              clear HB
              have HB := n0_
              clear n0_
              (try clear hb)
              (try clear hb2)
              (try clear hk)
              (try clear hi)
              refine hK.out _ _ ⟨((HB.out.cell (World.block_lt_of_cell? w _ hw108_0)).trans hw108_0), ((HB.out.cell (World.block_lt_of_cell? w _ hw108_1)).trans hw108_1), ((HB.out.cell (World.block_lt_of_cell? w _ hw108_2)).trans hw108_2), ((HB.out.cell (World.block_lt_of_cell? w _ hw108_3)).trans hw108_3), ((HB.out.cell (World.block_lt_of_cell? w _ hw108_4)).trans hw108_4), ((HB.out.cell (World.block_lt_of_cell? w _ hw110_0)).trans hw110_0), ((HB.out.cell (World.block_lt_of_cell? w _ hw110_1)).trans hw110_1), ((HB.out.cell (World.block_lt_of_cell? w _ hw110_2)).trans hw110_2), ((HB.out.cell (World.block_lt_of_cell? w _ hw110_3)).trans hw110_3), ((HB.out.cell (World.block_lt_of_cell? w _ hw110_4)).trans hw110_4), ((HB.out.cell (World.block_lt_of_cell? w _ hw111_0)).trans hw111_0), ((HB.out.cell (World.block_lt_of_cell? w _ hw111_1)).trans hw111_1), ((HB.out.cell (World.block_lt_of_cell? w _ hw111_2)).trans hw111_2), ((HB.out.cell (World.block_lt_of_cell? w _ hw111_3)).trans hw111_3), ((HB.out.cell (World.block_lt_of_cell? w _ hw111_4)).trans hw111_4), ((HB.out.cell (World.block_lt_of_cell? w _ hw112_0)).trans hw112_0), ((HB.out.cell (World.block_lt_of_cell? w _ hw112_1)).trans hw112_1), ((HB.out.cell (World.block_lt_of_cell? w _ hw112_2)).trans hw112_2), ((HB.out.cell (World.block_lt_of_cell? w _ hw112_3)).trans hw112_3), ((HB.out.cell (World.block_lt_of_cell? w _ hw112_4)).trans hw112_4), ((HB.out.cell (World.block_lt_of_cell? w _ hw113_0)).trans hw113_0), ((HB.out.cell (World.block_lt_of_cell? w _ hw113_1)).trans hw113_1), ((HB.out.cell (World.block_lt_of_cell? w _ hw113_2)).trans hw113_2), ((HB.out.cell (World.block_lt_of_cell? w _ hw113_3)).trans hw113_3), ((HB.out.cell (World.block_lt_of_cell? w _ hw113_4)).trans hw113_4)⟩ (fun hHeld => ?_)
              clear hK K
              refine norm_ (a' := ?_) ?_ ?_
              rotate_left
              ·
               show Act.put _ (some 114) _ = _
               simp only [Act.put, qSa, qS0, qS1, i64_w, i32_w]
               rfl
              refine pV 8 115 (bl 69 511) HT_.out ?_
              refine pV 9 116 (bl 69 1023) HT_.out ?_
              refine pV 10 117 (bl 69 2047) HT_.out ?_
              refine pV 11 118 (bl 69 4095) HT_.out ?_
              refine pV 12 119 (bl 69 8191) HT_.out ?_
              refine pV 14 121 (bl 69 24575) HT_.out ?_
              refine pV 15 122 (bl 69 57343) HT_.out ?_
              refine pV 16 123 (bl 69 122879) HT_.out ?_
              refine pV 17 124 (bl 69 253951) HT_.out ?_
              refine tV 13 120 (bl 69 262143) HT_.out HW_.out hHeld ?_ (hv := by rintro w' ⟨s0, s1, s2, s3, s4, s5, s6, s7, s8, s9, s10, s11, s12, s13, s14, s15, s16, s17, s18, s19, s20, s21, s22, s23, s24⟩; go_simp; with_reducible rfl)
              refine tV 18 125 (bl 69 524287) HT_.out HW_.out hHeld ?_ (hv := by rintro w' ⟨s0, s1, s2, s3, s4, s5, s6, s7, s8, s9, s10, s11, s12, s13, s14, s15, s16, s17, s18, s19, s20, s21, s22, s23, s24⟩; go_simp; with_reducible rfl)
              refine pV 19 126 (bl 69 1048575) HT_.out ?_
              refine pV 20 127 (bl 69 2097151) HT_.out ?_
              refine pV 21 128 (bl 69 4194303) HT_.out ?_
              refine pV 22 129 (bl 69 8388607) HT_.out ?_
              refine pV 23 130 (bl 69 16777215) HT_.out ?_
              refine pV 24 131 (bl 69 33554431) HT_.out ?_
              refine pV 26 133 (bl 69 100663295) HT_.out ?_
              refine pV 27 134 (bl 69 234881023) HT_.out ?_
              refine pV 28 135 (bl 69 503316479) HT_.out ?_
              refine pV 29 136 (bl 69 1040187391) HT_.out ?_
              refine tV 25 132 (bl 69 1073741823) HT_.out HW_.out hHeld ?_ (hv := by rintro w' ⟨s0, s1, s2, s3, s4, s5, s6, s7, s8, s9, s10, s11, s12, s13, s14, s15, s16, s17, s18, s19, s20, s21, s22, s23, s24⟩; go_simp; with_reducible rfl)
              refine tV 30 137 (bl 69 2147483647) HT_.out HW_.out hHeld ?_ (hv := by rintro w' ⟨s0, s1, s2, s3, s4, s5, s6, s7, s8, s9, s10, s11, s12, s13, s14, s15, s16, s17, s18, s19, s20, s21, s22, s23, s24⟩; go_simp; with_reducible rfl)
              refine pV 31 138 (bl 69 4294967295) HT_.out ?_
              refine pV 32 139 (bl 69 8589934591) HT_.out ?_
              refine pU 33 140 (bl 69 17179869183) HT_.out ?_
              refine pU 34 141 (bl 69 34359738367) HT_.out ?_
              refine pU 35 142 (bl 69 68719476735) HT_.out ?_
              refine pU 36 143 (bl 69 137438953471) HT_.out ?_
              refine pU 37 144 (bl 69 274877906943) HT_.out ?_
              refine pU 38 145 (bl 69 549755813887) HT_.out ?_
              refine pU 39 146 (bl 69 1099511627775) HT_.out ?_
              refine pU 40 147 (bl 69 2199023255551) HT_.out ?_
              refine pU 41 148 (bl 69 4398046511103) HT_.out ?_
              refine pU 42 149 (bl 69 8796093022207) HT_.out ?_
              refine pU 43 150 (bl 69 17592186044415) HT_.out ?_
              refine pU 44 151 (bl 69 35184372088831) HT_.out ?_
              refine pU 45 152 (bl 69 70368744177663) HT_.out ?_
              refine pU 46 153 (bl 69 140737488355327) HT_.out ?_
              refine pU 47 154 (bl 69 281474976710655) HT_.out ?_
              refine pU 48 155 (bl 69 562949953421311) HT_.out ?_
              refine pU 49 156 (bl 69 1125899906842623) HT_.out ?_
              refine pU 50 157 (bl 69 2251799813685247) HT_.out ?_
              refine pU 51 158 (bl 69 4503599627370495) HT_.out ?_
              refine pU 52 159 (bl 69 9007199254740991) HT_.out ?_
              refine pU 53 160 (bl 69 18014398509481983) HT_.out ?_
              refine pU 54 161 (bl 69 36028797018963967) HT_.out ?_
              refine pU 55 162 (bl 69 72057594037927935) HT_.out ?_
              refine pU 56 163 (bl 69 144115188075855871) HT_.out ?_
              refine pU 57 164 (bl 69 288230376151711743) HT_.out ?_
              refine pU 58 165 (bl 69 576460752303423487) HT_.out ?_
              refine pU 59 166 (bl 69 1152921504606846975) HT_.out ?_
              refine pU 60 167 (bl 69 2305843009213693951) HT_.out ?_
              refine pU 61 168 (bl 69 4611686018427387903) HT_.out ?_
              refine pU 62 169 (bl 69 9223372036854775807) HT_.out ?_
              refine pU 63 170 (bl 69 18446744073709551615) HT_.out ?_
              refine pU 64 171 (bl 69 36893488147419103231) HT_.out ?_
              refine pU 65 172 (bl 69 73786976294838206463) HT_.out ?_
              refine pV 66 173 (bl 69 147573952589676412927) HT_.out ?_
              refine pV 67 174 (bl 69 295147905179352825855) HT_.out ?_
              refine pV 68 175 (bl 69 590295810358705651711) HT_.out ?_
              refine done_ (done_of HT_.out (by kernel_rfl)) ?_
              try go_wp2
              go_roundg k4
              case measure => have := HJ6.out; have := HJ16.out; have := HJ21.out; have := HK4.out; omega
              case rel => exact ⟨(wrap64 (x15_4 + 1)), (by first | rfl | (simp; done) | (simp [*]; done)), H', ⟨by have := HJ6.out; have := HJ16.out; have := HJ21.out; have := HK4.out; omega⟩, ⟨by repeat (first | (with_reducible first | exact HB.out | apply bAl | apply pbD | apply bD1) | exact HB.out)⟩⟩
            rw [if_pos c39] at H
            have c39b0 : (((rd_T33 l0 x15_4).f3) == ((rd_T33 l0 t101).f3)) = true := beq_iff_eq.mpr c39
            have c39b1 : (((rd_T33 l0 x15_4).f3) != ((rd_T33 l0 t101).f3)) = false := bne_eq_false_iff_eq.mpr c39
            clear c39
            by_cases c40 : (((rd_T33 l0 x15_4).f1).size : Int) > (((rd_T33 l0 t101).f1).size : Int)
            rotate_left
            ·
             rw [if_neg c40] at H
             have c40b0 : decide ((((rd_T33 l0 t101).f1).size : Int) < (((rd_T33 l0 x15_4).f1).size : Int)) = false := decide_eq_false c40
             have c40b1 : decide (((rd_T33 l0 t101).f1).size < ((rd_T33 l0 x15_4).f1).size) = false := decide_eq_false (fun h => c40 (Int.ofNat_lt.mpr h))
             clear c40
             by_cases c41 : (((rd_T33 l0 x15_4).f1).size : Int) = (((rd_T33 l0 t101).f1).size : Int)
             rotate_left
             ·
              rw [if_neg c41] at H
              have c41b0 : ((((rd_T33 l0 x15_4).f1).size : Int) == (((rd_T33 l0 t101).f1).size : Int)) = false := beq_eq_false_iff_ne.mpr c41
              have c41b1 : ((((rd_T33 l0 x15_4).f1).size : Int) != (((rd_T33 l0 t101).f1).size : Int)) = true := bne_iff_ne.mpr c41
              have c41b2 : (((rd_T33 l0 x15_4).f1).size == ((rd_T33 l0 t101).f1).size) = false := by first | simpa using c41 | (simp at c41 ⊢; omega)
              have H' := aK H
              clear H
              try go_wp2
              have n0_ := aK (bD1 HB.out)
              clear HB
              have HB := n0_
              clear n0_
              have p108 : 0 ≤ (x15_4 : Int) := odT (by first | (with_reducible assumption) | assumption)
              have q108 : x15_4 < (l0.length : Int) := odT (by first | (with_reducible assumption) | assumption)
              obtain ⟨ad108, e108, hx108_0, hx108_1, hx108_2, hx108_3, hx108_4⟩ := at_T33 HR0.out x15_4 p108 q108
              have hw108_4 := hx108_4
              have hw108_3 := hx108_3
              have hw108_2 := hx108_2
              have hw108_1 := hx108_1
              have hw108_0 := hx108_0
              cases e108
              replace hx108_0 := (HB.out.cell (World.block_lt_of_cell? w _ hx108_0)).trans hx108_0
              replace hx108_1 := (HB.out.cell (World.block_lt_of_cell? w _ hx108_1)).trans hx108_1
              replace hx108_2 := (HB.out.cell (World.block_lt_of_cell? w _ hx108_2)).trans hx108_2
              replace hx108_3 := (HB.out.cell (World.block_lt_of_cell? w _ hx108_3)).trans hx108_3
              replace hx108_4 := (HB.out.cell (World.block_lt_of_cell? w _ hx108_4)).trans hx108_4
              replace p108 := eq_true p108
              replace q108 := eq_true q108
              have p110 : 0 ≤ (x15_4 : Int) := odT (by first | (with_reducible assumption) | assumption)
              have q110 : x15_4 < (l0.length : Int) := odT (by first | (with_reducible assumption) | assumption)
              obtain ⟨ad110, e110, hx110_0, hx110_1, hx110_2, hx110_3, hx110_4⟩ := at_T33 HR0.out x15_4 p110 q110
              have hw110_4 := hx110_4
              have hw110_3 := hx110_3
              have hw110_2 := hx110_2
              have hw110_1 := hx110_1
              have hw110_0 := hx110_0
              obtain rfl : ad108 = ad110 := (by injection e110)
              replace hx110_0 := (HB.out.cell (World.block_lt_of_cell? w _ hx110_0)).trans hx110_0
              replace hx110_1 := (HB.out.cell (World.block_lt_of_cell? w _ hx110_1)).trans hx110_1
              replace hx110_2 := (HB.out.cell (World.block_lt_of_cell? w _ hx110_2)).trans hx110_2
              replace hx110_3 := (HB.out.cell (World.block_lt_of_cell? w _ hx110_3)).trans hx110_3
              replace hx110_4 := (HB.out.cell (World.block_lt_of_cell? w _ hx110_4)).trans hx110_4
              replace p110 := eq_true p110
              replace q110 := eq_true q110
              have p111 : 0 ≤ (t101 : Int) := odT (by first | (with_reducible assumption) | assumption)
              have q111 : t101 < (l0.length : Int) := odT (by first | (with_reducible assumption) | assumption)
              obtain ⟨ad111, e111, hx111_0, hx111_1, hx111_2, hx111_3, hx111_4⟩ := at_T33 HR0.out t101 p111 q111
              have hw111_4 := hx111_4
              have hw111_3 := hx111_3
              have hw111_2 := hx111_2
              have hw111_1 := hx111_1
              have hw111_0 := hx111_0
              obtain rfl : ad108 = ad111 := (by injection e111)
              replace hx111_0 := (HB.out.cell (World.block_lt_of_cell? w _ hx111_0)).trans hx111_0
              replace hx111_1 := (HB.out.cell (World.block_lt_of_cell? w _ hx111_1)).trans hx111_1
              replace hx111_2 := (HB.out.cell (World.block_lt_of_cell? w _ hx111_2)).trans hx111_2
              replace hx111_3 := (HB.out.cell (World.block_lt_of_cell? w _ hx111_3)).trans hx111_3
              replace hx111_4 := (HB.out.cell (World.block_lt_of_cell? w _ hx111_4)).trans hx111_4
              replace p111 := eq_true p111
              replace q111 := eq_true q111
              have p112 : 0 ≤ (x15_4 : Int) := odT (by first | (with_reducible assumption) | assumption)
              have q112 : x15_4 < (l0.length : Int) := odT (by first | (with_reducible assumption) | assumption)
              obtain ⟨ad112, e112, hx112_0, hx112_1, hx112_2, hx112_3, hx112_4⟩ := at_T33 HR0.out x15_4 p112 q112
              have hw112_4 := hx112_4
              have hw112_3 := hx112_3
              have hw112_2 := hx112_2
              have hw112_1 := hx112_1
              have hw112_0 := hx112_0
              obtain rfl : ad108 = ad112 := (by injection e112)
              replace hx112_0 := (HB.out.cell (World.block_lt_of_cell? w _ hx112_0)).trans hx112_0
              replace hx112_1 := (HB.out.cell (World.block_lt_of_cell? w _ hx112_1)).trans hx112_1
              replace hx112_2 := (HB.out.cell (World.block_lt_of_cell? w _ hx112_2)).trans hx112_2
              replace hx112_3 := (HB.out.cell (World.block_lt_of_cell? w _ hx112_3)).trans hx112_3
              replace hx112_4 := (HB.out.cell (World.block_lt_of_cell? w _ hx112_4)).trans hx112_4
              replace p112 := eq_true p112
              replace q112 := eq_true q112
              have p113 : 0 ≤ (t101 : Int) := odT (by first | (with_reducible assumption) | assumption)
              have q113 : t101 < (l0.length : Int) := odT (by first | (with_reducible assumption) | assumption)
              obtain ⟨ad113, e113, hx113_0, hx113_1, hx113_2, hx113_3, hx113_4⟩ := at_T33 HR0.out t101 p113 q113
              have hw113_4 := hx113_4
              have hw113_3 := hx113_3
              have hw113_2 := hx113_2
              have hw113_1 := hx113_1
              have hw113_0 := hx113_0
              obtain rfl : ad108 = ad113 := (by injection e113)
              replace hx113_0 := (HB.out.cell (World.block_lt_of_cell? w _ hx113_0)).trans hx113_0
              replace hx113_1 := (HB.out.cell (World.block_lt_of_cell? w _ hx113_1)).trans hx113_1
              replace hx113_2 := (HB.out.cell (World.block_lt_of_cell? w _ hx113_2)).trans hx113_2
              replace hx113_3 := (HB.out.cell (World.block_lt_of_cell? w _ hx113_3)).trans hx113_3
              replace hx113_4 := (HB.out.cell (World.block_lt_of_cell? w _ hx113_4)).trans hx113_4
              replace p113 := eq_true p113
              replace q113 := eq_true q113
              have p114 : 0 ≤ (x15_4 : Int) := odT (by first | (with_reducible assumption) | assumption)
              have q114 : x15_4 < (l0.length : Int) := odT (by first | (with_reducible assumption) | assumption)
              obtain ⟨ad114, e114, hx114_0, hx114_1, hx114_2, hx114_3, hx114_4⟩ := at_T33 HR0.out x15_4 p114 q114
              have hw114_4 := hx114_4
              have hw114_3 := hx114_3
              have hw114_2 := hx114_2
              have hw114_1 := hx114_1
              have hw114_0 := hx114_0
              obtain rfl : ad108 = ad114 := (by injection e114)
              replace hx114_0 := (HB.out.cell (World.block_lt_of_cell? w _ hx114_0)).trans hx114_0
              replace hx114_1 := (HB.out.cell (World.block_lt_of_cell? w _ hx114_1)).trans hx114_1
              replace hx114_2 := (HB.out.cell (World.block_lt_of_cell? w _ hx114_2)).trans hx114_2
              replace hx114_3 := (HB.out.cell (World.block_lt_of_cell? w _ hx114_3)).trans hx114_3
              replace hx114_4 := (HB.out.cell (World.block_lt_of_cell? w _ hx114_4)).trans hx114_4
              replace p114 := eq_true p114
              replace q114 := eq_true q114
              have p115 : 0 ≤ (t101 : Int) := odT (by first | (with_reducible assumption) | assumption)
              have q115 : t101 < (l0.length : Int) := odT (by first | (with_reducible assumption) | assumption)
              obtain ⟨ad115, e115, hx115_0, hx115_1, hx115_2, hx115_3, hx115_4⟩ := at_T33 HR0.out t101 p115 q115
              have hw115_4 := hx115_4
              have hw115_3 := hx115_3
              have hw115_2 := hx115_2
              have hw115_1 := hx115_1
              have hw115_0 := hx115_0
              obtain rfl : ad108 = ad115 := (by injection e115)
              replace hx115_0 := (HB.out.cell (World.block_lt_of_cell? w _ hx115_0)).trans hx115_0
              replace hx115_1 := (HB.out.cell (World.block_lt_of_cell? w _ hx115_1)).trans hx115_1
              replace hx115_2 := (HB.out.cell (World.block_lt_of_cell? w _ hx115_2)).trans hx115_2
              replace hx115_3 := (HB.out.cell (World.block_lt_of_cell? w _ hx115_3)).trans hx115_3
              replace hx115_4 := (HB.out.cell (World.block_lt_of_cell? w _ hx115_4)).trans hx115_4
              replace p115 := eq_true p115
              replace q115 := eq_true q115
              have p116 : 0 ≤ (x15_4 : Int) := odT (by first | (with_reducible assumption) | assumption)
              have q116 : x15_4 < (l0.length : Int) := odT (by first | (with_reducible assumption) | assumption)
              obtain ⟨ad116, e116, hx116_0, hx116_1, hx116_2, hx116_3, hx116_4⟩ := at_T33 HR0.out x15_4 p116 q116
              have hw116_4 := hx116_4
              have hw116_3 := hx116_3
              have hw116_2 := hx116_2
              have hw116_1 := hx116_1
              have hw116_0 := hx116_0
              obtain rfl : ad108 = ad116 := (by injection e116)
              replace hx116_0 := (HB.out.cell (World.block_lt_of_cell? w _ hx116_0)).trans hx116_0
              replace hx116_1 := (HB.out.cell (World.block_lt_of_cell? w _ hx116_1)).trans hx116_1
              replace hx116_2 := (HB.out.cell (World.block_lt_of_cell? w _ hx116_2)).trans hx116_2
              replace hx116_3 := (HB.out.cell (World.block_lt_of_cell? w _ hx116_3)).trans hx116_3
              replace hx116_4 := (HB.out.cell (World.block_lt_of_cell? w _ hx116_4)).trans hx116_4
              replace p116 := eq_true p116
              replace q116 := eq_true q116
              have p117 : 0 ≤ (t101 : Int) := odT (by first | (with_reducible assumption) | assumption)
              have q117 : t101 < (l0.length : Int) := odT (by first | (with_reducible assumption) | assumption)
              obtain ⟨ad117, e117, hx117_0, hx117_1, hx117_2, hx117_3, hx117_4⟩ := at_T33 HR0.out t101 p117 q117
              have hw117_4 := hx117_4
              have hw117_3 := hx117_3
              have hw117_2 := hx117_2
              have hw117_1 := hx117_1
              have hw117_0 := hx117_0
              obtain rfl : ad108 = ad117 := (by injection e117)
              replace hx117_0 := (HB.out.cell (World.block_lt_of_cell? w _ hx117_0)).trans hx117_0
              replace hx117_1 := (HB.out.cell (World.block_lt_of_cell? w _ hx117_1)).trans hx117_1
              replace hx117_2 := (HB.out.cell (World.block_lt_of_cell? w _ hx117_2)).trans hx117_2
              replace hx117_3 := (HB.out.cell (World.block_lt_of_cell? w _ hx117_3)).trans hx117_3
              replace hx117_4 := (HB.out.cell (World.block_lt_of_cell? w _ hx117_4)).trans hx117_4
              replace p117 := eq_true p117
              replace q117 := eq_true q117
              as_aux_lemma =>
               refine start_ (n := 69) (S := fun w' => w'.cell? (ad108.add ((x15_4).toNat * 5)) = some (.int .i64 ((rd_T33 l0 x15_4).f0)) ∧ w'.cell? ⟨(ad108.add ((x15_4).toNat * 5)).block, (ad108.add ((x15_4).toNat * 5)).off + 1, none⟩ = some (.string ((rd_T33 l0 x15_4).f1)) ∧ w'.cell? ⟨(ad108.add ((x15_4).toNat * 5)).block, (ad108.add ((x15_4).toNat * 5)).off + 2, none⟩ = some (.string ((rd_T33 l0 x15_4).f2)) ∧ w'.cell? ⟨(ad108.add ((x15_4).toNat * 5)).block, (ad108.add ((x15_4).toNat * 5)).off + 3, none⟩ = some (.int .i64 ((rd_T33 l0 x15_4).f3)) ∧ w'.cell? ⟨(ad108.add ((x15_4).toNat * 5)).block, (ad108.add ((x15_4).toNat * 5)).off + 4, none⟩ = some (.int .i64 ((rd_T33 l0 x15_4).f4)) ∧ w'.cell? (ad108.add ((x15_4).toNat * 5)) = some (.int .i64 ((rd_T33 l0 x15_4).f0)) ∧ w'.cell? ⟨(ad108.add ((x15_4).toNat * 5)).block, (ad108.add ((x15_4).toNat * 5)).off + 1, none⟩ = some (.string ((rd_T33 l0 x15_4).f1)) ∧ w'.cell? ⟨(ad108.add ((x15_4).toNat * 5)).block, (ad108.add ((x15_4).toNat * 5)).off + 2, none⟩ = some (.string ((rd_T33 l0 x15_4).f2)) ∧ w'.cell? ⟨(ad108.add ((x15_4).toNat * 5)).block, (ad108.add ((x15_4).toNat * 5)).off + 3, none⟩ = some (.int .i64 ((rd_T33 l0 x15_4).f3)) ∧ w'.cell? ⟨(ad108.add ((x15_4).toNat * 5)).block, (ad108.add ((x15_4).toNat * 5)).off + 4, none⟩ = some (.int .i64 ((rd_T33 l0 x15_4).f4)) ∧ w'.cell? (ad108.add ((t101).toNat * 5)) = some (.int .i64 ((rd_T33 l0 t101).f0)) ∧ w'.cell? ⟨(ad108.add ((t101).toNat * 5)).block, (ad108.add ((t101).toNat * 5)).off + 1, none⟩ = some (.string ((rd_T33 l0 t101).f1)) ∧ w'.cell? ⟨(ad108.add ((t101).toNat * 5)).block, (ad108.add ((t101).toNat * 5)).off + 2, none⟩ = some (.string ((rd_T33 l0 t101).f2)) ∧ w'.cell? ⟨(ad108.add ((t101).toNat * 5)).block, (ad108.add ((t101).toNat * 5)).off + 3, none⟩ = some (.int .i64 ((rd_T33 l0 t101).f3)) ∧ w'.cell? ⟨(ad108.add ((t101).toNat * 5)).block, (ad108.add ((t101).toNat * 5)).off + 4, none⟩ = some (.int .i64 ((rd_T33 l0 t101).f4)) ∧ w'.cell? (ad108.add ((x15_4).toNat * 5)) = some (.int .i64 ((rd_T33 l0 x15_4).f0)) ∧ w'.cell? ⟨(ad108.add ((x15_4).toNat * 5)).block, (ad108.add ((x15_4).toNat * 5)).off + 1, none⟩ = some (.string ((rd_T33 l0 x15_4).f1)) ∧ w'.cell? ⟨(ad108.add ((x15_4).toNat * 5)).block, (ad108.add ((x15_4).toNat * 5)).off + 2, none⟩ = some (.string ((rd_T33 l0 x15_4).f2)) ∧ w'.cell? ⟨(ad108.add ((x15_4).toNat * 5)).block, (ad108.add ((x15_4).toNat * 5)).off + 3, none⟩ = some (.int .i64 ((rd_T33 l0 x15_4).f3)) ∧ w'.cell? ⟨(ad108.add ((x15_4).toNat * 5)).block, (ad108.add ((x15_4).toNat * 5)).off + 4, none⟩ = some (.int .i64 ((rd_T33 l0 x15_4).f4)) ∧ w'.cell? (ad108.add ((t101).toNat * 5)) = some (.int .i64 ((rd_T33 l0 t101).f0)) ∧ w'.cell? ⟨(ad108.add ((t101).toNat * 5)).block, (ad108.add ((t101).toNat * 5)).off + 1, none⟩ = some (.string ((rd_T33 l0 t101).f1)) ∧ w'.cell? ⟨(ad108.add ((t101).toNat * 5)).block, (ad108.add ((t101).toNat * 5)).off + 2, none⟩ = some (.string ((rd_T33 l0 t101).f2)) ∧ w'.cell? ⟨(ad108.add ((t101).toNat * 5)).block, (ad108.add ((t101).toNat * 5)).off + 3, none⟩ = some (.int .i64 ((rd_T33 l0 t101).f3)) ∧ w'.cell? ⟨(ad108.add ((t101).toNat * 5)).block, (ad108.add ((t101).toNat * 5)).off + 4, none⟩ = some (.int .i64 ((rd_T33 l0 t101).f4)) ∧ w'.cell? (ad108.add ((x15_4).toNat * 5)) = some (.int .i64 ((rd_T33 l0 x15_4).f0)) ∧ w'.cell? ⟨(ad108.add ((x15_4).toNat * 5)).block, (ad108.add ((x15_4).toNat * 5)).off + 1, none⟩ = some (.string ((rd_T33 l0 x15_4).f1)) ∧ w'.cell? ⟨(ad108.add ((x15_4).toNat * 5)).block, (ad108.add ((x15_4).toNat * 5)).off + 2, none⟩ = some (.string ((rd_T33 l0 x15_4).f2)) ∧ w'.cell? ⟨(ad108.add ((x15_4).toNat * 5)).block, (ad108.add ((x15_4).toNat * 5)).off + 3, none⟩ = some (.int .i64 ((rd_T33 l0 x15_4).f3)) ∧ w'.cell? ⟨(ad108.add ((x15_4).toNat * 5)).block, (ad108.add ((x15_4).toNat * 5)).off + 4, none⟩ = some (.int .i64 ((rd_T33 l0 x15_4).f4)) ∧ w'.cell? (ad108.add ((t101).toNat * 5)) = some (.int .i64 ((rd_T33 l0 t101).f0)) ∧ w'.cell? ⟨(ad108.add ((t101).toNat * 5)).block, (ad108.add ((t101).toNat * 5)).off + 1, none⟩ = some (.string ((rd_T33 l0 t101).f1)) ∧ w'.cell? ⟨(ad108.add ((t101).toNat * 5)).block, (ad108.add ((t101).toNat * 5)).off + 2, none⟩ = some (.string ((rd_T33 l0 t101).f2)) ∧ w'.cell? ⟨(ad108.add ((t101).toNat * 5)).block, (ad108.add ((t101).toNat * 5)).off + 3, none⟩ = some (.int .i64 ((rd_T33 l0 t101).f3)) ∧ w'.cell? ⟨(ad108.add ((t101).toNat * 5)).block, (ad108.add ((t101).toNat * 5)).off + 4, none⟩ = some (.int .i64 ((rd_T33 l0 t101).f4)) ∧ w'.cell? (ad108.add ((x15_4).toNat * 5)) = some (.int .i64 ((rd_T33 l0 x15_4).f0)) ∧ w'.cell? ⟨(ad108.add ((x15_4).toNat * 5)).block, (ad108.add ((x15_4).toNat * 5)).off + 1, none⟩ = some (.string ((rd_T33 l0 x15_4).f1)) ∧ w'.cell? ⟨(ad108.add ((x15_4).toNat * 5)).block, (ad108.add ((x15_4).toNat * 5)).off + 2, none⟩ = some (.string ((rd_T33 l0 x15_4).f2)) ∧ w'.cell? ⟨(ad108.add ((x15_4).toNat * 5)).block, (ad108.add ((x15_4).toNat * 5)).off + 3, none⟩ = some (.int .i64 ((rd_T33 l0 x15_4).f3)) ∧ w'.cell? ⟨(ad108.add ((x15_4).toNat * 5)).block, (ad108.add ((x15_4).toNat * 5)).off + 4, none⟩ = some (.int .i64 ((rd_T33 l0 x15_4).f4)) ∧ w'.cell? (ad108.add ((t101).toNat * 5)) = some (.int .i64 ((rd_T33 l0 t101).f0)) ∧ w'.cell? ⟨(ad108.add ((t101).toNat * 5)).block, (ad108.add ((t101).toNat * 5)).off + 1, none⟩ = some (.string ((rd_T33 l0 t101).f1)) ∧ w'.cell? ⟨(ad108.add ((t101).toNat * 5)).block, (ad108.add ((t101).toNat * 5)).off + 2, none⟩ = some (.string ((rd_T33 l0 t101).f2)) ∧ w'.cell? ⟨(ad108.add ((t101).toNat * 5)).block, (ad108.add ((t101).toNat * 5)).off + 3, none⟩ = some (.int .i64 ((rd_T33 l0 t101).f3)) ∧ w'.cell? ⟨(ad108.add ((t101).toNat * 5)).block, (ad108.add ((t101).toNat * 5)).off + 4, none⟩ = some (.int .i64 ((rd_T33 l0 t101).f4))) (ds := []) (bl 69 0) (by kernel_rfl) rfl (by kernel_rfl) ⟨((HB.out.cell (World.block_lt_of_cell? w _ hw108_0)).trans hw108_0), ((HB.out.cell (World.block_lt_of_cell? w _ hw108_1)).trans hw108_1), ((HB.out.cell (World.block_lt_of_cell? w _ hw108_2)).trans hw108_2), ((HB.out.cell (World.block_lt_of_cell? w _ hw108_3)).trans hw108_3), ((HB.out.cell (World.block_lt_of_cell? w _ hw108_4)).trans hw108_4), ((HB.out.cell (World.block_lt_of_cell? w _ hw110_0)).trans hw110_0), ((HB.out.cell (World.block_lt_of_cell? w _ hw110_1)).trans hw110_1), ((HB.out.cell (World.block_lt_of_cell? w _ hw110_2)).trans hw110_2), ((HB.out.cell (World.block_lt_of_cell? w _ hw110_3)).trans hw110_3), ((HB.out.cell (World.block_lt_of_cell? w _ hw110_4)).trans hw110_4), ((HB.out.cell (World.block_lt_of_cell? w _ hw111_0)).trans hw111_0), ((HB.out.cell (World.block_lt_of_cell? w _ hw111_1)).trans hw111_1), ((HB.out.cell (World.block_lt_of_cell? w _ hw111_2)).trans hw111_2), ((HB.out.cell (World.block_lt_of_cell? w _ hw111_3)).trans hw111_3), ((HB.out.cell (World.block_lt_of_cell? w _ hw111_4)).trans hw111_4), ((HB.out.cell (World.block_lt_of_cell? w _ hw112_0)).trans hw112_0), ((HB.out.cell (World.block_lt_of_cell? w _ hw112_1)).trans hw112_1), ((HB.out.cell (World.block_lt_of_cell? w _ hw112_2)).trans hw112_2), ((HB.out.cell (World.block_lt_of_cell? w _ hw112_3)).trans hw112_3), ((HB.out.cell (World.block_lt_of_cell? w _ hw112_4)).trans hw112_4), ((HB.out.cell (World.block_lt_of_cell? w _ hw113_0)).trans hw113_0), ((HB.out.cell (World.block_lt_of_cell? w _ hw113_1)).trans hw113_1), ((HB.out.cell (World.block_lt_of_cell? w _ hw113_2)).trans hw113_2), ((HB.out.cell (World.block_lt_of_cell? w _ hw113_3)).trans hw113_3), ((HB.out.cell (World.block_lt_of_cell? w _ hw113_4)).trans hw113_4), ((HB.out.cell (World.block_lt_of_cell? w _ hw114_0)).trans hw114_0), ((HB.out.cell (World.block_lt_of_cell? w _ hw114_1)).trans hw114_1), ((HB.out.cell (World.block_lt_of_cell? w _ hw114_2)).trans hw114_2), ((HB.out.cell (World.block_lt_of_cell? w _ hw114_3)).trans hw114_3), ((HB.out.cell (World.block_lt_of_cell? w _ hw114_4)).trans hw114_4), ((HB.out.cell (World.block_lt_of_cell? w _ hw115_0)).trans hw115_0), ((HB.out.cell (World.block_lt_of_cell? w _ hw115_1)).trans hw115_1), ((HB.out.cell (World.block_lt_of_cell? w _ hw115_2)).trans hw115_2), ((HB.out.cell (World.block_lt_of_cell? w _ hw115_3)).trans hw115_3), ((HB.out.cell (World.block_lt_of_cell? w _ hw115_4)).trans hw115_4), ((HB.out.cell (World.block_lt_of_cell? w _ hw116_0)).trans hw116_0), ((HB.out.cell (World.block_lt_of_cell? w _ hw116_1)).trans hw116_1), ((HB.out.cell (World.block_lt_of_cell? w _ hw116_2)).trans hw116_2), ((HB.out.cell (World.block_lt_of_cell? w _ hw116_3)).trans hw116_3), ((HB.out.cell (World.block_lt_of_cell? w _ hw116_4)).trans hw116_4), ((HB.out.cell (World.block_lt_of_cell? w _ hw117_0)).trans hw117_0), ((HB.out.cell (World.block_lt_of_cell? w _ hw117_1)).trans hw117_1), ((HB.out.cell (World.block_lt_of_cell? w _ hw117_2)).trans hw117_2), ((HB.out.cell (World.block_lt_of_cell? w _ hw117_3)).trans hw117_3), ((HB.out.cell (World.block_lt_of_cell? w _ hw117_4)).trans hw117_4)⟩ (fun hHeld => ?_); refine with_tabW pLeast.tab17 pLeast.bits17 (fun HT_ HW_ => ?_)
               generalize wr.drew = w45 at HB hx108_0 hx108_1 hx108_2 hx108_3 hx108_4 hx110_0 hx110_1 hx110_2 hx110_3 hx110_4 hx111_0 hx111_1 hx111_2 hx111_3 hx111_4 hx112_0 hx112_1 hx112_2 hx112_3 hx112_4 hx113_0 hx113_1 hx113_2 hx113_3 hx113_4 hx114_0 hx114_1 hx114_2 hx114_3 hx114_4 hx115_0 hx115_1 hx115_2 hx115_3 hx115_4 hx116_0 hx116_1 hx116_2 hx116_3 hx116_4 hx117_0 hx117_1 hx117_2 hx117_3 hx117_4 hHeld ⊢
               refine pV 0 107 (bl 69 1) HT_.out ?_
               refine pV 1 108 (bl 69 3) HT_.out ?_
               refine pV 2 109 (bl 69 7) HT_.out ?_
               refine pV 4 111 (bl 69 23) HT_.out ?_
               refine pV 5 112 (bl 69 55) HT_.out ?_
               refine pV 6 113 (bl 69 119) HT_.out ?_
               refine tV 3 110 (bl 69 127) HT_.out HW_.out hHeld ?_ (hv := by rintro w' ⟨s0, s1, s2, s3, s4, s5, s6, s7, s8, s9, s10, s11, s12, s13, s14, s15, s16, s17, s18, s19, s20, s21, s22, s23, s24, s25, s26, s27, s28, s29, s30, s31, s32, s33, s34, s35, s36, s37, s38, s39, s40, s41, s42, s43, s44⟩; go_simp; with_reducible rfl)
               refine one_ (i := 7) (N := some 114) (bl 69 255) rfl rfl (one_of HT_.out (by kernel_rfl)) (by decide) (fun K hK => ?_)
               refine goes_ Try.func31 (by kernel_rfl) rfl #[.agg #[.int .i64 ((rd_T33 l0 x15_4).f0), .string ((rd_T33 l0 x15_4).f1), .string ((rd_T33 l0 x15_4).f2), .int .i64 ((rd_T33 l0 x15_4).f3), .int .i64 ((rd_T33 l0 x15_4).f4)], .string a1, .int .i64 a2, .int .i64 a3] (by rfl) rfl rfl (by (try simp only [qM0, qM1, qM2]); first | done | rfl | (simp only [qD0, qD1]; rfl)) ?_
               with_reducible refine (part_Eligible.calls ((rd_T33 l0 x15_4).f0) ((rd_T33 l0 x15_4).f1) ((rd_T33 l0 x15_4).f2) ((rd_T33 l0 x15_4).f3) ((rd_T33 l0 x15_4).f4) a1 a2 a3 true _ A34.out).mono ?_
               rintro e w46 ⟨rfl, hb⟩
               refine ⟨_, rfl, ?_⟩
               have n0_ := aK (bSp (by repeat (first | (with_reducible first | exact HB.out | apply bAl | apply pbD | apply bD1) | exact HB.out)) hb)
               clear HB
               have HB := n0_
               clear n0_
               (try clear hb)
               (try clear hb2)
               (try clear hk)
               (try clear hi)
               refine hK.out _ _ ⟨((HB.out.cell (World.block_lt_of_cell? w _ hw108_0)).trans hw108_0), ((HB.out.cell (World.block_lt_of_cell? w _ hw108_1)).trans hw108_1), ((HB.out.cell (World.block_lt_of_cell? w _ hw108_2)).trans hw108_2), ((HB.out.cell (World.block_lt_of_cell? w _ hw108_3)).trans hw108_3), ((HB.out.cell (World.block_lt_of_cell? w _ hw108_4)).trans hw108_4), ((HB.out.cell (World.block_lt_of_cell? w _ hw110_0)).trans hw110_0), ((HB.out.cell (World.block_lt_of_cell? w _ hw110_1)).trans hw110_1), ((HB.out.cell (World.block_lt_of_cell? w _ hw110_2)).trans hw110_2), ((HB.out.cell (World.block_lt_of_cell? w _ hw110_3)).trans hw110_3), ((HB.out.cell (World.block_lt_of_cell? w _ hw110_4)).trans hw110_4), ((HB.out.cell (World.block_lt_of_cell? w _ hw111_0)).trans hw111_0), ((HB.out.cell (World.block_lt_of_cell? w _ hw111_1)).trans hw111_1), ((HB.out.cell (World.block_lt_of_cell? w _ hw111_2)).trans hw111_2), ((HB.out.cell (World.block_lt_of_cell? w _ hw111_3)).trans hw111_3), ((HB.out.cell (World.block_lt_of_cell? w _ hw111_4)).trans hw111_4), ((HB.out.cell (World.block_lt_of_cell? w _ hw112_0)).trans hw112_0), ((HB.out.cell (World.block_lt_of_cell? w _ hw112_1)).trans hw112_1), ((HB.out.cell (World.block_lt_of_cell? w _ hw112_2)).trans hw112_2), ((HB.out.cell (World.block_lt_of_cell? w _ hw112_3)).trans hw112_3), ((HB.out.cell (World.block_lt_of_cell? w _ hw112_4)).trans hw112_4), ((HB.out.cell (World.block_lt_of_cell? w _ hw113_0)).trans hw113_0), ((HB.out.cell (World.block_lt_of_cell? w _ hw113_1)).trans hw113_1), ((HB.out.cell (World.block_lt_of_cell? w _ hw113_2)).trans hw113_2), ((HB.out.cell (World.block_lt_of_cell? w _ hw113_3)).trans hw113_3), ((HB.out.cell (World.block_lt_of_cell? w _ hw113_4)).trans hw113_4), ((HB.out.cell (World.block_lt_of_cell? w _ hw114_0)).trans hw114_0), ((HB.out.cell (World.block_lt_of_cell? w _ hw114_1)).trans hw114_1), ((HB.out.cell (World.block_lt_of_cell? w _ hw114_2)).trans hw114_2), ((HB.out.cell (World.block_lt_of_cell? w _ hw114_3)).trans hw114_3), ((HB.out.cell (World.block_lt_of_cell? w _ hw114_4)).trans hw114_4), ((HB.out.cell (World.block_lt_of_cell? w _ hw115_0)).trans hw115_0), ((HB.out.cell (World.block_lt_of_cell? w _ hw115_1)).trans hw115_1), ((HB.out.cell (World.block_lt_of_cell? w _ hw115_2)).trans hw115_2), ((HB.out.cell (World.block_lt_of_cell? w _ hw115_3)).trans hw115_3), ((HB.out.cell (World.block_lt_of_cell? w _ hw115_4)).trans hw115_4), ((HB.out.cell (World.block_lt_of_cell? w _ hw116_0)).trans hw116_0), ((HB.out.cell (World.block_lt_of_cell? w _ hw116_1)).trans hw116_1), ((HB.out.cell (World.block_lt_of_cell? w _ hw116_2)).trans hw116_2), ((HB.out.cell (World.block_lt_of_cell? w _ hw116_3)).trans hw116_3), ((HB.out.cell (World.block_lt_of_cell? w _ hw116_4)).trans hw116_4), ((HB.out.cell (World.block_lt_of_cell? w _ hw117_0)).trans hw117_0), ((HB.out.cell (World.block_lt_of_cell? w _ hw117_1)).trans hw117_1), ((HB.out.cell (World.block_lt_of_cell? w _ hw117_2)).trans hw117_2), ((HB.out.cell (World.block_lt_of_cell? w _ hw117_3)).trans hw117_3), ((HB.out.cell (World.block_lt_of_cell? w _ hw117_4)).trans hw117_4)⟩ (fun hHeld => ?_)
               clear hK K
               refine norm_ (a' := ?_) ?_ ?_
               rotate_left
               ·
                show Act.put _ (some 114) _ = _
                simp only [Act.put, qSa, qS0, qS1, i64_w, i32_w]
                rfl
               refine pV 8 115 (bl 69 511) HT_.out ?_
               refine pV 9 116 (bl 69 1023) HT_.out ?_
               refine pV 10 117 (bl 69 2047) HT_.out ?_
               refine pV 11 118 (bl 69 4095) HT_.out ?_
               refine pV 12 119 (bl 69 8191) HT_.out ?_
               refine pV 14 121 (bl 69 24575) HT_.out ?_
               refine pV 15 122 (bl 69 57343) HT_.out ?_
               refine pV 16 123 (bl 69 122879) HT_.out ?_
               refine pV 17 124 (bl 69 253951) HT_.out ?_
               refine tV 13 120 (bl 69 262143) HT_.out HW_.out hHeld ?_ (hv := by rintro w' ⟨s0, s1, s2, s3, s4, s5, s6, s7, s8, s9, s10, s11, s12, s13, s14, s15, s16, s17, s18, s19, s20, s21, s22, s23, s24, s25, s26, s27, s28, s29, s30, s31, s32, s33, s34, s35, s36, s37, s38, s39, s40, s41, s42, s43, s44⟩; go_simp; with_reducible rfl)
               refine tV 18 125 (bl 69 524287) HT_.out HW_.out hHeld ?_ (hv := by rintro w' ⟨s0, s1, s2, s3, s4, s5, s6, s7, s8, s9, s10, s11, s12, s13, s14, s15, s16, s17, s18, s19, s20, s21, s22, s23, s24, s25, s26, s27, s28, s29, s30, s31, s32, s33, s34, s35, s36, s37, s38, s39, s40, s41, s42, s43, s44⟩; go_simp; with_reducible rfl)
               refine pV 19 126 (bl 69 1048575) HT_.out ?_
               refine pV 20 127 (bl 69 2097151) HT_.out ?_
               refine pV 21 128 (bl 69 4194303) HT_.out ?_
               refine pV 22 129 (bl 69 8388607) HT_.out ?_
               refine pV 23 130 (bl 69 16777215) HT_.out ?_
               refine pV 24 131 (bl 69 33554431) HT_.out ?_
               refine pV 26 133 (bl 69 100663295) HT_.out ?_
               refine pV 27 134 (bl 69 234881023) HT_.out ?_
               refine pV 28 135 (bl 69 503316479) HT_.out ?_
               refine pV 29 136 (bl 69 1040187391) HT_.out ?_
               refine tV 25 132 (bl 69 1073741823) HT_.out HW_.out hHeld ?_ (hv := by rintro w' ⟨s0, s1, s2, s3, s4, s5, s6, s7, s8, s9, s10, s11, s12, s13, s14, s15, s16, s17, s18, s19, s20, s21, s22, s23, s24, s25, s26, s27, s28, s29, s30, s31, s32, s33, s34, s35, s36, s37, s38, s39, s40, s41, s42, s43, s44⟩; go_simp; with_reducible rfl)
               refine tV 30 137 (bl 69 2147483647) HT_.out HW_.out hHeld ?_ (hv := by rintro w' ⟨s0, s1, s2, s3, s4, s5, s6, s7, s8, s9, s10, s11, s12, s13, s14, s15, s16, s17, s18, s19, s20, s21, s22, s23, s24, s25, s26, s27, s28, s29, s30, s31, s32, s33, s34, s35, s36, s37, s38, s39, s40, s41, s42, s43, s44⟩; go_simp; with_reducible rfl)
               refine pV 31 138 (bl 69 4294967295) HT_.out ?_
               refine pV 32 139 (bl 69 8589934591) HT_.out ?_
               refine pV 33 140 (bl 69 17179869183) HT_.out ?_
               refine pV 34 141 (bl 69 34359738367) HT_.out ?_
               refine pV 35 142 (bl 69 68719476735) HT_.out ?_
               refine pV 36 143 (bl 69 137438953471) HT_.out ?_
               refine pV 39 146 (bl 69 687194767359) HT_.out ?_
               refine pV 40 147 (bl 69 1786706395135) HT_.out ?_
               refine pV 41 148 (bl 69 3985729650687) HT_.out ?_
               refine pV 42 149 (bl 69 8383776161791) HT_.out ?_
               refine tV 37 144 (bl 69 8521215115263) HT_.out HW_.out hHeld ?_ (hv := by rintro w' ⟨s0, s1, s2, s3, s4, s5, s6, s7, s8, s9, s10, s11, s12, s13, s14, s15, s16, s17, s18, s19, s20, s21, s22, s23, s24, s25, s26, s27, s28, s29, s30, s31, s32, s33, s34, s35, s36, s37, s38, s39, s40, s41, s42, s43, s44⟩; go_simp; with_reducible rfl)
               refine pV 38 145 (bl 69 8796093022207) HT_.out ?_
               refine tV 43 150 (bl 69 17592186044415) HT_.out HW_.out hHeld ?_ (hv := by rintro w' ⟨s0, s1, s2, s3, s4, s5, s6, s7, s8, s9, s10, s11, s12, s13, s14, s15, s16, s17, s18, s19, s20, s21, s22, s23, s24, s25, s26, s27, s28, s29, s30, s31, s32, s33, s34, s35, s36, s37, s38, s39, s40, s41, s42, s43, s44⟩; go_simp; with_reducible rfl)
               refine pV 44 151 (bl 69 35184372088831) HT_.out ?_
               refine pV 45 152 (bl 69 70368744177663) HT_.out ?_
               refine pV 46 153 (bl 69 140737488355327) HT_.out ?_
               refine pV 47 154 (bl 69 281474976710655) HT_.out ?_
               refine pV 48 155 (bl 69 562949953421311) HT_.out ?_
               refine pV 49 156 (bl 69 1125899906842623) HT_.out ?_
               refine pV 50 157 (bl 69 2251799813685247) HT_.out ?_
               refine pV 53 160 (bl 69 11258999068426239) HT_.out ?_
               refine pV 54 161 (bl 69 29273397577908223) HT_.out ?_
               refine pV 55 162 (bl 69 65302194596872191) HT_.out ?_
               refine pV 56 163 (bl 69 137359788634800127) HT_.out ?_
               refine tV 51 158 (bl 69 139611588448485375) HT_.out HW_.out hHeld ?_ (hv := by rintro w' ⟨s0, s1, s2, s3, s4, s5, s6, s7, s8, s9, s10, s11, s12, s13, s14, s15, s16, s17, s18, s19, s20, s21, s22, s23, s24, s25, s26, s27, s28, s29, s30, s31, s32, s33, s34, s35, s36, s37, s38, s39, s40, s41, s42, s43, s44⟩; go_simp; with_reducible rfl)
               refine pV 52 159 (bl 69 144115188075855871) HT_.out ?_
               refine tV 57 164 (bl 69 288230376151711743) HT_.out HW_.out hHeld ?_ (hv := by rintro w' ⟨s0, s1, s2, s3, s4, s5, s6, s7, s8, s9, s10, s11, s12, s13, s14, s15, s16, s17, s18, s19, s20, s21, s22, s23, s24, s25, s26, s27, s28, s29, s30, s31, s32, s33, s34, s35, s36, s37, s38, s39, s40, s41, s42, s43, s44⟩; go_simp; with_reducible rfl)
               refine pV 58 165 (bl 69 576460752303423487) HT_.out ?_
               refine pV 59 166 (bl 69 1152921504606846975) HT_.out ?_
               refine pV 60 167 (bl 69 2305843009213693951) HT_.out ?_
               refine pU 61 168 (bl 69 4611686018427387903) HT_.out ?_
               refine pU 62 169 (bl 69 9223372036854775807) HT_.out ?_
               refine pU 63 170 (bl 69 18446744073709551615) HT_.out ?_
               refine pV 64 171 (bl 69 36893488147419103231) HT_.out ?_
               refine pV 65 172 (bl 69 73786976294838206463) HT_.out ?_
               refine pV 66 173 (bl 69 147573952589676412927) HT_.out ?_
               refine pV 67 174 (bl 69 295147905179352825855) HT_.out ?_
               refine pV 68 175 (bl 69 590295810358705651711) HT_.out ?_
               refine done_ (done_of HT_.out (by kernel_rfl)) ?_
               try go_wp2
               go_roundg k4
               case measure => have := HJ6.out; have := HJ16.out; have := HJ21.out; have := HK4.out; omega
               case rel => exact ⟨(wrap64 (x15_4 + 1)), (by first | rfl | (simp; done) | (simp [*]; done)), H', ⟨by have := HJ6.out; have := HJ16.out; have := HJ21.out; have := HK4.out; omega⟩, ⟨by repeat (first | (with_reducible first | exact HB.out | apply bAl | apply pbD | apply bD1) | exact HB.out)⟩⟩
             rw [if_pos c41] at H
             have c41b0 : ((((rd_T33 l0 x15_4).f1).size : Int) == (((rd_T33 l0 t101).f1).size : Int)) = true := beq_iff_eq.mpr c41
             have c41b1 : ((((rd_T33 l0 x15_4).f1).size : Int) != (((rd_T33 l0 t101).f1).size : Int)) = false := bne_eq_false_iff_eq.mpr c41
             have c41b2 : (((rd_T33 l0 x15_4).f1).size == ((rd_T33 l0 t101).f1).size) = true := by first | simpa using c41 | (simp at c41 ⊢; omega)
             clear c41
             by_cases c42 : x15_4 < t101
             rotate_left
             ·
              rw [if_neg c42] at H
              have c42b0 : decide (x15_4 < t101) = false := decide_eq_false c42
              clear c42
              have H' := aK H
              clear H
              try go_wp2
              have n0_ := aK (bD1 HB.out)
              clear HB
              have HB := n0_
              clear n0_
              have p108 : 0 ≤ (x15_4 : Int) := odT (by first | (with_reducible assumption) | assumption)
              have q108 : x15_4 < (l0.length : Int) := odT (by first | (with_reducible assumption) | assumption)
              obtain ⟨ad108, e108, hx108_0, hx108_1, hx108_2, hx108_3, hx108_4⟩ := at_T33 HR0.out x15_4 p108 q108
              have hw108_4 := hx108_4
              have hw108_3 := hx108_3
              have hw108_2 := hx108_2
              have hw108_1 := hx108_1
              have hw108_0 := hx108_0
              cases e108
              replace hx108_0 := (HB.out.cell (World.block_lt_of_cell? w _ hx108_0)).trans hx108_0
              replace hx108_1 := (HB.out.cell (World.block_lt_of_cell? w _ hx108_1)).trans hx108_1
              replace hx108_2 := (HB.out.cell (World.block_lt_of_cell? w _ hx108_2)).trans hx108_2
              replace hx108_3 := (HB.out.cell (World.block_lt_of_cell? w _ hx108_3)).trans hx108_3
              replace hx108_4 := (HB.out.cell (World.block_lt_of_cell? w _ hx108_4)).trans hx108_4
              replace p108 := eq_true p108
              replace q108 := eq_true q108
              have p110 : 0 ≤ (x15_4 : Int) := odT (by first | (with_reducible assumption) | assumption)
              have q110 : x15_4 < (l0.length : Int) := odT (by first | (with_reducible assumption) | assumption)
              obtain ⟨ad110, e110, hx110_0, hx110_1, hx110_2, hx110_3, hx110_4⟩ := at_T33 HR0.out x15_4 p110 q110
              have hw110_4 := hx110_4
              have hw110_3 := hx110_3
              have hw110_2 := hx110_2
              have hw110_1 := hx110_1
              have hw110_0 := hx110_0
              obtain rfl : ad108 = ad110 := (by injection e110)
              replace hx110_0 := (HB.out.cell (World.block_lt_of_cell? w _ hx110_0)).trans hx110_0
              replace hx110_1 := (HB.out.cell (World.block_lt_of_cell? w _ hx110_1)).trans hx110_1
              replace hx110_2 := (HB.out.cell (World.block_lt_of_cell? w _ hx110_2)).trans hx110_2
              replace hx110_3 := (HB.out.cell (World.block_lt_of_cell? w _ hx110_3)).trans hx110_3
              replace hx110_4 := (HB.out.cell (World.block_lt_of_cell? w _ hx110_4)).trans hx110_4
              replace p110 := eq_true p110
              replace q110 := eq_true q110
              have p111 : 0 ≤ (t101 : Int) := odT (by first | (with_reducible assumption) | assumption)
              have q111 : t101 < (l0.length : Int) := odT (by first | (with_reducible assumption) | assumption)
              obtain ⟨ad111, e111, hx111_0, hx111_1, hx111_2, hx111_3, hx111_4⟩ := at_T33 HR0.out t101 p111 q111
              have hw111_4 := hx111_4
              have hw111_3 := hx111_3
              have hw111_2 := hx111_2
              have hw111_1 := hx111_1
              have hw111_0 := hx111_0
              obtain rfl : ad108 = ad111 := (by injection e111)
              replace hx111_0 := (HB.out.cell (World.block_lt_of_cell? w _ hx111_0)).trans hx111_0
              replace hx111_1 := (HB.out.cell (World.block_lt_of_cell? w _ hx111_1)).trans hx111_1
              replace hx111_2 := (HB.out.cell (World.block_lt_of_cell? w _ hx111_2)).trans hx111_2
              replace hx111_3 := (HB.out.cell (World.block_lt_of_cell? w _ hx111_3)).trans hx111_3
              replace hx111_4 := (HB.out.cell (World.block_lt_of_cell? w _ hx111_4)).trans hx111_4
              replace p111 := eq_true p111
              replace q111 := eq_true q111
              have p112 : 0 ≤ (x15_4 : Int) := odT (by first | (with_reducible assumption) | assumption)
              have q112 : x15_4 < (l0.length : Int) := odT (by first | (with_reducible assumption) | assumption)
              obtain ⟨ad112, e112, hx112_0, hx112_1, hx112_2, hx112_3, hx112_4⟩ := at_T33 HR0.out x15_4 p112 q112
              have hw112_4 := hx112_4
              have hw112_3 := hx112_3
              have hw112_2 := hx112_2
              have hw112_1 := hx112_1
              have hw112_0 := hx112_0
              obtain rfl : ad108 = ad112 := (by injection e112)
              replace hx112_0 := (HB.out.cell (World.block_lt_of_cell? w _ hx112_0)).trans hx112_0
              replace hx112_1 := (HB.out.cell (World.block_lt_of_cell? w _ hx112_1)).trans hx112_1
              replace hx112_2 := (HB.out.cell (World.block_lt_of_cell? w _ hx112_2)).trans hx112_2
              replace hx112_3 := (HB.out.cell (World.block_lt_of_cell? w _ hx112_3)).trans hx112_3
              replace hx112_4 := (HB.out.cell (World.block_lt_of_cell? w _ hx112_4)).trans hx112_4
              replace p112 := eq_true p112
              replace q112 := eq_true q112
              have p113 : 0 ≤ (t101 : Int) := odT (by first | (with_reducible assumption) | assumption)
              have q113 : t101 < (l0.length : Int) := odT (by first | (with_reducible assumption) | assumption)
              obtain ⟨ad113, e113, hx113_0, hx113_1, hx113_2, hx113_3, hx113_4⟩ := at_T33 HR0.out t101 p113 q113
              have hw113_4 := hx113_4
              have hw113_3 := hx113_3
              have hw113_2 := hx113_2
              have hw113_1 := hx113_1
              have hw113_0 := hx113_0
              obtain rfl : ad108 = ad113 := (by injection e113)
              replace hx113_0 := (HB.out.cell (World.block_lt_of_cell? w _ hx113_0)).trans hx113_0
              replace hx113_1 := (HB.out.cell (World.block_lt_of_cell? w _ hx113_1)).trans hx113_1
              replace hx113_2 := (HB.out.cell (World.block_lt_of_cell? w _ hx113_2)).trans hx113_2
              replace hx113_3 := (HB.out.cell (World.block_lt_of_cell? w _ hx113_3)).trans hx113_3
              replace hx113_4 := (HB.out.cell (World.block_lt_of_cell? w _ hx113_4)).trans hx113_4
              replace p113 := eq_true p113
              replace q113 := eq_true q113
              have p114 : 0 ≤ (x15_4 : Int) := odT (by first | (with_reducible assumption) | assumption)
              have q114 : x15_4 < (l0.length : Int) := odT (by first | (with_reducible assumption) | assumption)
              obtain ⟨ad114, e114, hx114_0, hx114_1, hx114_2, hx114_3, hx114_4⟩ := at_T33 HR0.out x15_4 p114 q114
              have hw114_4 := hx114_4
              have hw114_3 := hx114_3
              have hw114_2 := hx114_2
              have hw114_1 := hx114_1
              have hw114_0 := hx114_0
              obtain rfl : ad108 = ad114 := (by injection e114)
              replace hx114_0 := (HB.out.cell (World.block_lt_of_cell? w _ hx114_0)).trans hx114_0
              replace hx114_1 := (HB.out.cell (World.block_lt_of_cell? w _ hx114_1)).trans hx114_1
              replace hx114_2 := (HB.out.cell (World.block_lt_of_cell? w _ hx114_2)).trans hx114_2
              replace hx114_3 := (HB.out.cell (World.block_lt_of_cell? w _ hx114_3)).trans hx114_3
              replace hx114_4 := (HB.out.cell (World.block_lt_of_cell? w _ hx114_4)).trans hx114_4
              replace p114 := eq_true p114
              replace q114 := eq_true q114
              have p115 : 0 ≤ (t101 : Int) := odT (by first | (with_reducible assumption) | assumption)
              have q115 : t101 < (l0.length : Int) := odT (by first | (with_reducible assumption) | assumption)
              obtain ⟨ad115, e115, hx115_0, hx115_1, hx115_2, hx115_3, hx115_4⟩ := at_T33 HR0.out t101 p115 q115
              have hw115_4 := hx115_4
              have hw115_3 := hx115_3
              have hw115_2 := hx115_2
              have hw115_1 := hx115_1
              have hw115_0 := hx115_0
              obtain rfl : ad108 = ad115 := (by injection e115)
              replace hx115_0 := (HB.out.cell (World.block_lt_of_cell? w _ hx115_0)).trans hx115_0
              replace hx115_1 := (HB.out.cell (World.block_lt_of_cell? w _ hx115_1)).trans hx115_1
              replace hx115_2 := (HB.out.cell (World.block_lt_of_cell? w _ hx115_2)).trans hx115_2
              replace hx115_3 := (HB.out.cell (World.block_lt_of_cell? w _ hx115_3)).trans hx115_3
              replace hx115_4 := (HB.out.cell (World.block_lt_of_cell? w _ hx115_4)).trans hx115_4
              replace p115 := eq_true p115
              replace q115 := eq_true q115
              have p116 : 0 ≤ (x15_4 : Int) := odT (by first | (with_reducible assumption) | assumption)
              have q116 : x15_4 < (l0.length : Int) := odT (by first | (with_reducible assumption) | assumption)
              obtain ⟨ad116, e116, hx116_0, hx116_1, hx116_2, hx116_3, hx116_4⟩ := at_T33 HR0.out x15_4 p116 q116
              have hw116_4 := hx116_4
              have hw116_3 := hx116_3
              have hw116_2 := hx116_2
              have hw116_1 := hx116_1
              have hw116_0 := hx116_0
              obtain rfl : ad108 = ad116 := (by injection e116)
              replace hx116_0 := (HB.out.cell (World.block_lt_of_cell? w _ hx116_0)).trans hx116_0
              replace hx116_1 := (HB.out.cell (World.block_lt_of_cell? w _ hx116_1)).trans hx116_1
              replace hx116_2 := (HB.out.cell (World.block_lt_of_cell? w _ hx116_2)).trans hx116_2
              replace hx116_3 := (HB.out.cell (World.block_lt_of_cell? w _ hx116_3)).trans hx116_3
              replace hx116_4 := (HB.out.cell (World.block_lt_of_cell? w _ hx116_4)).trans hx116_4
              replace p116 := eq_true p116
              replace q116 := eq_true q116
              have p117 : 0 ≤ (t101 : Int) := odT (by first | (with_reducible assumption) | assumption)
              have q117 : t101 < (l0.length : Int) := odT (by first | (with_reducible assumption) | assumption)
              obtain ⟨ad117, e117, hx117_0, hx117_1, hx117_2, hx117_3, hx117_4⟩ := at_T33 HR0.out t101 p117 q117
              have hw117_4 := hx117_4
              have hw117_3 := hx117_3
              have hw117_2 := hx117_2
              have hw117_1 := hx117_1
              have hw117_0 := hx117_0
              obtain rfl : ad108 = ad117 := (by injection e117)
              replace hx117_0 := (HB.out.cell (World.block_lt_of_cell? w _ hx117_0)).trans hx117_0
              replace hx117_1 := (HB.out.cell (World.block_lt_of_cell? w _ hx117_1)).trans hx117_1
              replace hx117_2 := (HB.out.cell (World.block_lt_of_cell? w _ hx117_2)).trans hx117_2
              replace hx117_3 := (HB.out.cell (World.block_lt_of_cell? w _ hx117_3)).trans hx117_3
              replace hx117_4 := (HB.out.cell (World.block_lt_of_cell? w _ hx117_4)).trans hx117_4
              replace p117 := eq_true p117
              replace q117 := eq_true q117
              as_aux_lemma =>
               refine start_ (n := 69) (S := fun w' => w'.cell? (ad108.add ((x15_4).toNat * 5)) = some (.int .i64 ((rd_T33 l0 x15_4).f0)) ∧ w'.cell? ⟨(ad108.add ((x15_4).toNat * 5)).block, (ad108.add ((x15_4).toNat * 5)).off + 1, none⟩ = some (.string ((rd_T33 l0 x15_4).f1)) ∧ w'.cell? ⟨(ad108.add ((x15_4).toNat * 5)).block, (ad108.add ((x15_4).toNat * 5)).off + 2, none⟩ = some (.string ((rd_T33 l0 x15_4).f2)) ∧ w'.cell? ⟨(ad108.add ((x15_4).toNat * 5)).block, (ad108.add ((x15_4).toNat * 5)).off + 3, none⟩ = some (.int .i64 ((rd_T33 l0 x15_4).f3)) ∧ w'.cell? ⟨(ad108.add ((x15_4).toNat * 5)).block, (ad108.add ((x15_4).toNat * 5)).off + 4, none⟩ = some (.int .i64 ((rd_T33 l0 x15_4).f4)) ∧ w'.cell? (ad108.add ((x15_4).toNat * 5)) = some (.int .i64 ((rd_T33 l0 x15_4).f0)) ∧ w'.cell? ⟨(ad108.add ((x15_4).toNat * 5)).block, (ad108.add ((x15_4).toNat * 5)).off + 1, none⟩ = some (.string ((rd_T33 l0 x15_4).f1)) ∧ w'.cell? ⟨(ad108.add ((x15_4).toNat * 5)).block, (ad108.add ((x15_4).toNat * 5)).off + 2, none⟩ = some (.string ((rd_T33 l0 x15_4).f2)) ∧ w'.cell? ⟨(ad108.add ((x15_4).toNat * 5)).block, (ad108.add ((x15_4).toNat * 5)).off + 3, none⟩ = some (.int .i64 ((rd_T33 l0 x15_4).f3)) ∧ w'.cell? ⟨(ad108.add ((x15_4).toNat * 5)).block, (ad108.add ((x15_4).toNat * 5)).off + 4, none⟩ = some (.int .i64 ((rd_T33 l0 x15_4).f4)) ∧ w'.cell? (ad108.add ((t101).toNat * 5)) = some (.int .i64 ((rd_T33 l0 t101).f0)) ∧ w'.cell? ⟨(ad108.add ((t101).toNat * 5)).block, (ad108.add ((t101).toNat * 5)).off + 1, none⟩ = some (.string ((rd_T33 l0 t101).f1)) ∧ w'.cell? ⟨(ad108.add ((t101).toNat * 5)).block, (ad108.add ((t101).toNat * 5)).off + 2, none⟩ = some (.string ((rd_T33 l0 t101).f2)) ∧ w'.cell? ⟨(ad108.add ((t101).toNat * 5)).block, (ad108.add ((t101).toNat * 5)).off + 3, none⟩ = some (.int .i64 ((rd_T33 l0 t101).f3)) ∧ w'.cell? ⟨(ad108.add ((t101).toNat * 5)).block, (ad108.add ((t101).toNat * 5)).off + 4, none⟩ = some (.int .i64 ((rd_T33 l0 t101).f4)) ∧ w'.cell? (ad108.add ((x15_4).toNat * 5)) = some (.int .i64 ((rd_T33 l0 x15_4).f0)) ∧ w'.cell? ⟨(ad108.add ((x15_4).toNat * 5)).block, (ad108.add ((x15_4).toNat * 5)).off + 1, none⟩ = some (.string ((rd_T33 l0 x15_4).f1)) ∧ w'.cell? ⟨(ad108.add ((x15_4).toNat * 5)).block, (ad108.add ((x15_4).toNat * 5)).off + 2, none⟩ = some (.string ((rd_T33 l0 x15_4).f2)) ∧ w'.cell? ⟨(ad108.add ((x15_4).toNat * 5)).block, (ad108.add ((x15_4).toNat * 5)).off + 3, none⟩ = some (.int .i64 ((rd_T33 l0 x15_4).f3)) ∧ w'.cell? ⟨(ad108.add ((x15_4).toNat * 5)).block, (ad108.add ((x15_4).toNat * 5)).off + 4, none⟩ = some (.int .i64 ((rd_T33 l0 x15_4).f4)) ∧ w'.cell? (ad108.add ((t101).toNat * 5)) = some (.int .i64 ((rd_T33 l0 t101).f0)) ∧ w'.cell? ⟨(ad108.add ((t101).toNat * 5)).block, (ad108.add ((t101).toNat * 5)).off + 1, none⟩ = some (.string ((rd_T33 l0 t101).f1)) ∧ w'.cell? ⟨(ad108.add ((t101).toNat * 5)).block, (ad108.add ((t101).toNat * 5)).off + 2, none⟩ = some (.string ((rd_T33 l0 t101).f2)) ∧ w'.cell? ⟨(ad108.add ((t101).toNat * 5)).block, (ad108.add ((t101).toNat * 5)).off + 3, none⟩ = some (.int .i64 ((rd_T33 l0 t101).f3)) ∧ w'.cell? ⟨(ad108.add ((t101).toNat * 5)).block, (ad108.add ((t101).toNat * 5)).off + 4, none⟩ = some (.int .i64 ((rd_T33 l0 t101).f4)) ∧ w'.cell? (ad108.add ((x15_4).toNat * 5)) = some (.int .i64 ((rd_T33 l0 x15_4).f0)) ∧ w'.cell? ⟨(ad108.add ((x15_4).toNat * 5)).block, (ad108.add ((x15_4).toNat * 5)).off + 1, none⟩ = some (.string ((rd_T33 l0 x15_4).f1)) ∧ w'.cell? ⟨(ad108.add ((x15_4).toNat * 5)).block, (ad108.add ((x15_4).toNat * 5)).off + 2, none⟩ = some (.string ((rd_T33 l0 x15_4).f2)) ∧ w'.cell? ⟨(ad108.add ((x15_4).toNat * 5)).block, (ad108.add ((x15_4).toNat * 5)).off + 3, none⟩ = some (.int .i64 ((rd_T33 l0 x15_4).f3)) ∧ w'.cell? ⟨(ad108.add ((x15_4).toNat * 5)).block, (ad108.add ((x15_4).toNat * 5)).off + 4, none⟩ = some (.int .i64 ((rd_T33 l0 x15_4).f4)) ∧ w'.cell? (ad108.add ((t101).toNat * 5)) = some (.int .i64 ((rd_T33 l0 t101).f0)) ∧ w'.cell? ⟨(ad108.add ((t101).toNat * 5)).block, (ad108.add ((t101).toNat * 5)).off + 1, none⟩ = some (.string ((rd_T33 l0 t101).f1)) ∧ w'.cell? ⟨(ad108.add ((t101).toNat * 5)).block, (ad108.add ((t101).toNat * 5)).off + 2, none⟩ = some (.string ((rd_T33 l0 t101).f2)) ∧ w'.cell? ⟨(ad108.add ((t101).toNat * 5)).block, (ad108.add ((t101).toNat * 5)).off + 3, none⟩ = some (.int .i64 ((rd_T33 l0 t101).f3)) ∧ w'.cell? ⟨(ad108.add ((t101).toNat * 5)).block, (ad108.add ((t101).toNat * 5)).off + 4, none⟩ = some (.int .i64 ((rd_T33 l0 t101).f4)) ∧ w'.cell? (ad108.add ((x15_4).toNat * 5)) = some (.int .i64 ((rd_T33 l0 x15_4).f0)) ∧ w'.cell? ⟨(ad108.add ((x15_4).toNat * 5)).block, (ad108.add ((x15_4).toNat * 5)).off + 1, none⟩ = some (.string ((rd_T33 l0 x15_4).f1)) ∧ w'.cell? ⟨(ad108.add ((x15_4).toNat * 5)).block, (ad108.add ((x15_4).toNat * 5)).off + 2, none⟩ = some (.string ((rd_T33 l0 x15_4).f2)) ∧ w'.cell? ⟨(ad108.add ((x15_4).toNat * 5)).block, (ad108.add ((x15_4).toNat * 5)).off + 3, none⟩ = some (.int .i64 ((rd_T33 l0 x15_4).f3)) ∧ w'.cell? ⟨(ad108.add ((x15_4).toNat * 5)).block, (ad108.add ((x15_4).toNat * 5)).off + 4, none⟩ = some (.int .i64 ((rd_T33 l0 x15_4).f4)) ∧ w'.cell? (ad108.add ((t101).toNat * 5)) = some (.int .i64 ((rd_T33 l0 t101).f0)) ∧ w'.cell? ⟨(ad108.add ((t101).toNat * 5)).block, (ad108.add ((t101).toNat * 5)).off + 1, none⟩ = some (.string ((rd_T33 l0 t101).f1)) ∧ w'.cell? ⟨(ad108.add ((t101).toNat * 5)).block, (ad108.add ((t101).toNat * 5)).off + 2, none⟩ = some (.string ((rd_T33 l0 t101).f2)) ∧ w'.cell? ⟨(ad108.add ((t101).toNat * 5)).block, (ad108.add ((t101).toNat * 5)).off + 3, none⟩ = some (.int .i64 ((rd_T33 l0 t101).f3)) ∧ w'.cell? ⟨(ad108.add ((t101).toNat * 5)).block, (ad108.add ((t101).toNat * 5)).off + 4, none⟩ = some (.int .i64 ((rd_T33 l0 t101).f4))) (ds := []) (bl 69 0) (by kernel_rfl) rfl (by kernel_rfl) ⟨((HB.out.cell (World.block_lt_of_cell? w _ hw108_0)).trans hw108_0), ((HB.out.cell (World.block_lt_of_cell? w _ hw108_1)).trans hw108_1), ((HB.out.cell (World.block_lt_of_cell? w _ hw108_2)).trans hw108_2), ((HB.out.cell (World.block_lt_of_cell? w _ hw108_3)).trans hw108_3), ((HB.out.cell (World.block_lt_of_cell? w _ hw108_4)).trans hw108_4), ((HB.out.cell (World.block_lt_of_cell? w _ hw110_0)).trans hw110_0), ((HB.out.cell (World.block_lt_of_cell? w _ hw110_1)).trans hw110_1), ((HB.out.cell (World.block_lt_of_cell? w _ hw110_2)).trans hw110_2), ((HB.out.cell (World.block_lt_of_cell? w _ hw110_3)).trans hw110_3), ((HB.out.cell (World.block_lt_of_cell? w _ hw110_4)).trans hw110_4), ((HB.out.cell (World.block_lt_of_cell? w _ hw111_0)).trans hw111_0), ((HB.out.cell (World.block_lt_of_cell? w _ hw111_1)).trans hw111_1), ((HB.out.cell (World.block_lt_of_cell? w _ hw111_2)).trans hw111_2), ((HB.out.cell (World.block_lt_of_cell? w _ hw111_3)).trans hw111_3), ((HB.out.cell (World.block_lt_of_cell? w _ hw111_4)).trans hw111_4), ((HB.out.cell (World.block_lt_of_cell? w _ hw112_0)).trans hw112_0), ((HB.out.cell (World.block_lt_of_cell? w _ hw112_1)).trans hw112_1), ((HB.out.cell (World.block_lt_of_cell? w _ hw112_2)).trans hw112_2), ((HB.out.cell (World.block_lt_of_cell? w _ hw112_3)).trans hw112_3), ((HB.out.cell (World.block_lt_of_cell? w _ hw112_4)).trans hw112_4), ((HB.out.cell (World.block_lt_of_cell? w _ hw113_0)).trans hw113_0), ((HB.out.cell (World.block_lt_of_cell? w _ hw113_1)).trans hw113_1), ((HB.out.cell (World.block_lt_of_cell? w _ hw113_2)).trans hw113_2), ((HB.out.cell (World.block_lt_of_cell? w _ hw113_3)).trans hw113_3), ((HB.out.cell (World.block_lt_of_cell? w _ hw113_4)).trans hw113_4), ((HB.out.cell (World.block_lt_of_cell? w _ hw114_0)).trans hw114_0), ((HB.out.cell (World.block_lt_of_cell? w _ hw114_1)).trans hw114_1), ((HB.out.cell (World.block_lt_of_cell? w _ hw114_2)).trans hw114_2), ((HB.out.cell (World.block_lt_of_cell? w _ hw114_3)).trans hw114_3), ((HB.out.cell (World.block_lt_of_cell? w _ hw114_4)).trans hw114_4), ((HB.out.cell (World.block_lt_of_cell? w _ hw115_0)).trans hw115_0), ((HB.out.cell (World.block_lt_of_cell? w _ hw115_1)).trans hw115_1), ((HB.out.cell (World.block_lt_of_cell? w _ hw115_2)).trans hw115_2), ((HB.out.cell (World.block_lt_of_cell? w _ hw115_3)).trans hw115_3), ((HB.out.cell (World.block_lt_of_cell? w _ hw115_4)).trans hw115_4), ((HB.out.cell (World.block_lt_of_cell? w _ hw116_0)).trans hw116_0), ((HB.out.cell (World.block_lt_of_cell? w _ hw116_1)).trans hw116_1), ((HB.out.cell (World.block_lt_of_cell? w _ hw116_2)).trans hw116_2), ((HB.out.cell (World.block_lt_of_cell? w _ hw116_3)).trans hw116_3), ((HB.out.cell (World.block_lt_of_cell? w _ hw116_4)).trans hw116_4), ((HB.out.cell (World.block_lt_of_cell? w _ hw117_0)).trans hw117_0), ((HB.out.cell (World.block_lt_of_cell? w _ hw117_1)).trans hw117_1), ((HB.out.cell (World.block_lt_of_cell? w _ hw117_2)).trans hw117_2), ((HB.out.cell (World.block_lt_of_cell? w _ hw117_3)).trans hw117_3), ((HB.out.cell (World.block_lt_of_cell? w _ hw117_4)).trans hw117_4)⟩ (fun hHeld => ?_); refine with_tabW pLeast.tab17 pLeast.bits17 (fun HT_ HW_ => ?_)
               generalize wr.drew = w43 at HB hx108_0 hx108_1 hx108_2 hx108_3 hx108_4 hx110_0 hx110_1 hx110_2 hx110_3 hx110_4 hx111_0 hx111_1 hx111_2 hx111_3 hx111_4 hx112_0 hx112_1 hx112_2 hx112_3 hx112_4 hx113_0 hx113_1 hx113_2 hx113_3 hx113_4 hx114_0 hx114_1 hx114_2 hx114_3 hx114_4 hx115_0 hx115_1 hx115_2 hx115_3 hx115_4 hx116_0 hx116_1 hx116_2 hx116_3 hx116_4 hx117_0 hx117_1 hx117_2 hx117_3 hx117_4 hHeld ⊢
               refine pV 0 107 (bl 69 1) HT_.out ?_
               refine pV 1 108 (bl 69 3) HT_.out ?_
               refine pV 2 109 (bl 69 7) HT_.out ?_
               refine pV 4 111 (bl 69 23) HT_.out ?_
               refine pV 5 112 (bl 69 55) HT_.out ?_
               refine pV 6 113 (bl 69 119) HT_.out ?_
               refine tV 3 110 (bl 69 127) HT_.out HW_.out hHeld ?_ (hv := by rintro w' ⟨s0, s1, s2, s3, s4, s5, s6, s7, s8, s9, s10, s11, s12, s13, s14, s15, s16, s17, s18, s19, s20, s21, s22, s23, s24, s25, s26, s27, s28, s29, s30, s31, s32, s33, s34, s35, s36, s37, s38, s39, s40, s41, s42, s43, s44⟩; go_simp; with_reducible rfl)
               refine one_ (i := 7) (N := some 114) (bl 69 255) rfl rfl (one_of HT_.out (by kernel_rfl)) (by decide) (fun K hK => ?_)
               refine goes_ Try.func31 (by kernel_rfl) rfl #[.agg #[.int .i64 ((rd_T33 l0 x15_4).f0), .string ((rd_T33 l0 x15_4).f1), .string ((rd_T33 l0 x15_4).f2), .int .i64 ((rd_T33 l0 x15_4).f3), .int .i64 ((rd_T33 l0 x15_4).f4)], .string a1, .int .i64 a2, .int .i64 a3] (by rfl) rfl rfl (by (try simp only [qM0, qM1, qM2]); first | done | rfl | (simp only [qD0, qD1]; rfl)) ?_
               with_reducible refine (part_Eligible.calls ((rd_T33 l0 x15_4).f0) ((rd_T33 l0 x15_4).f1) ((rd_T33 l0 x15_4).f2) ((rd_T33 l0 x15_4).f3) ((rd_T33 l0 x15_4).f4) a1 a2 a3 true _ A34.out).mono ?_
               rintro e w44 ⟨rfl, hb⟩
               refine ⟨_, rfl, ?_⟩
               have n0_ := aK (bSp (by repeat (first | (with_reducible first | exact HB.out | apply bAl | apply pbD | apply bD1) | exact HB.out)) hb)
               clear HB
               have HB := n0_
               clear n0_
               (try clear hb)
               (try clear hb2)
               (try clear hk)
               (try clear hi)
               refine hK.out _ _ ⟨((HB.out.cell (World.block_lt_of_cell? w _ hw108_0)).trans hw108_0), ((HB.out.cell (World.block_lt_of_cell? w _ hw108_1)).trans hw108_1), ((HB.out.cell (World.block_lt_of_cell? w _ hw108_2)).trans hw108_2), ((HB.out.cell (World.block_lt_of_cell? w _ hw108_3)).trans hw108_3), ((HB.out.cell (World.block_lt_of_cell? w _ hw108_4)).trans hw108_4), ((HB.out.cell (World.block_lt_of_cell? w _ hw110_0)).trans hw110_0), ((HB.out.cell (World.block_lt_of_cell? w _ hw110_1)).trans hw110_1), ((HB.out.cell (World.block_lt_of_cell? w _ hw110_2)).trans hw110_2), ((HB.out.cell (World.block_lt_of_cell? w _ hw110_3)).trans hw110_3), ((HB.out.cell (World.block_lt_of_cell? w _ hw110_4)).trans hw110_4), ((HB.out.cell (World.block_lt_of_cell? w _ hw111_0)).trans hw111_0), ((HB.out.cell (World.block_lt_of_cell? w _ hw111_1)).trans hw111_1), ((HB.out.cell (World.block_lt_of_cell? w _ hw111_2)).trans hw111_2), ((HB.out.cell (World.block_lt_of_cell? w _ hw111_3)).trans hw111_3), ((HB.out.cell (World.block_lt_of_cell? w _ hw111_4)).trans hw111_4), ((HB.out.cell (World.block_lt_of_cell? w _ hw112_0)).trans hw112_0), ((HB.out.cell (World.block_lt_of_cell? w _ hw112_1)).trans hw112_1), ((HB.out.cell (World.block_lt_of_cell? w _ hw112_2)).trans hw112_2), ((HB.out.cell (World.block_lt_of_cell? w _ hw112_3)).trans hw112_3), ((HB.out.cell (World.block_lt_of_cell? w _ hw112_4)).trans hw112_4), ((HB.out.cell (World.block_lt_of_cell? w _ hw113_0)).trans hw113_0), ((HB.out.cell (World.block_lt_of_cell? w _ hw113_1)).trans hw113_1), ((HB.out.cell (World.block_lt_of_cell? w _ hw113_2)).trans hw113_2), ((HB.out.cell (World.block_lt_of_cell? w _ hw113_3)).trans hw113_3), ((HB.out.cell (World.block_lt_of_cell? w _ hw113_4)).trans hw113_4), ((HB.out.cell (World.block_lt_of_cell? w _ hw114_0)).trans hw114_0), ((HB.out.cell (World.block_lt_of_cell? w _ hw114_1)).trans hw114_1), ((HB.out.cell (World.block_lt_of_cell? w _ hw114_2)).trans hw114_2), ((HB.out.cell (World.block_lt_of_cell? w _ hw114_3)).trans hw114_3), ((HB.out.cell (World.block_lt_of_cell? w _ hw114_4)).trans hw114_4), ((HB.out.cell (World.block_lt_of_cell? w _ hw115_0)).trans hw115_0), ((HB.out.cell (World.block_lt_of_cell? w _ hw115_1)).trans hw115_1), ((HB.out.cell (World.block_lt_of_cell? w _ hw115_2)).trans hw115_2), ((HB.out.cell (World.block_lt_of_cell? w _ hw115_3)).trans hw115_3), ((HB.out.cell (World.block_lt_of_cell? w _ hw115_4)).trans hw115_4), ((HB.out.cell (World.block_lt_of_cell? w _ hw116_0)).trans hw116_0), ((HB.out.cell (World.block_lt_of_cell? w _ hw116_1)).trans hw116_1), ((HB.out.cell (World.block_lt_of_cell? w _ hw116_2)).trans hw116_2), ((HB.out.cell (World.block_lt_of_cell? w _ hw116_3)).trans hw116_3), ((HB.out.cell (World.block_lt_of_cell? w _ hw116_4)).trans hw116_4), ((HB.out.cell (World.block_lt_of_cell? w _ hw117_0)).trans hw117_0), ((HB.out.cell (World.block_lt_of_cell? w _ hw117_1)).trans hw117_1), ((HB.out.cell (World.block_lt_of_cell? w _ hw117_2)).trans hw117_2), ((HB.out.cell (World.block_lt_of_cell? w _ hw117_3)).trans hw117_3), ((HB.out.cell (World.block_lt_of_cell? w _ hw117_4)).trans hw117_4)⟩ (fun hHeld => ?_)
               clear hK K
               refine norm_ (a' := ?_) ?_ ?_
               rotate_left
               ·
                show Act.put _ (some 114) _ = _
                simp only [Act.put, qSa, qS0, qS1, i64_w, i32_w]
                rfl
               refine pV 8 115 (bl 69 511) HT_.out ?_
               refine pV 9 116 (bl 69 1023) HT_.out ?_
               refine pV 10 117 (bl 69 2047) HT_.out ?_
               refine pV 11 118 (bl 69 4095) HT_.out ?_
               refine pV 12 119 (bl 69 8191) HT_.out ?_
               refine pV 14 121 (bl 69 24575) HT_.out ?_
               refine pV 15 122 (bl 69 57343) HT_.out ?_
               refine pV 16 123 (bl 69 122879) HT_.out ?_
               refine pV 17 124 (bl 69 253951) HT_.out ?_
               refine tV 13 120 (bl 69 262143) HT_.out HW_.out hHeld ?_ (hv := by rintro w' ⟨s0, s1, s2, s3, s4, s5, s6, s7, s8, s9, s10, s11, s12, s13, s14, s15, s16, s17, s18, s19, s20, s21, s22, s23, s24, s25, s26, s27, s28, s29, s30, s31, s32, s33, s34, s35, s36, s37, s38, s39, s40, s41, s42, s43, s44⟩; go_simp; with_reducible rfl)
               refine tV 18 125 (bl 69 524287) HT_.out HW_.out hHeld ?_ (hv := by rintro w' ⟨s0, s1, s2, s3, s4, s5, s6, s7, s8, s9, s10, s11, s12, s13, s14, s15, s16, s17, s18, s19, s20, s21, s22, s23, s24, s25, s26, s27, s28, s29, s30, s31, s32, s33, s34, s35, s36, s37, s38, s39, s40, s41, s42, s43, s44⟩; go_simp; with_reducible rfl)
               refine pV 19 126 (bl 69 1048575) HT_.out ?_
               refine pV 20 127 (bl 69 2097151) HT_.out ?_
               refine pV 21 128 (bl 69 4194303) HT_.out ?_
               refine pV 22 129 (bl 69 8388607) HT_.out ?_
               refine pV 23 130 (bl 69 16777215) HT_.out ?_
               refine pV 24 131 (bl 69 33554431) HT_.out ?_
               refine pV 26 133 (bl 69 100663295) HT_.out ?_
               refine pV 27 134 (bl 69 234881023) HT_.out ?_
               refine pV 28 135 (bl 69 503316479) HT_.out ?_
               refine pV 29 136 (bl 69 1040187391) HT_.out ?_
               refine tV 25 132 (bl 69 1073741823) HT_.out HW_.out hHeld ?_ (hv := by rintro w' ⟨s0, s1, s2, s3, s4, s5, s6, s7, s8, s9, s10, s11, s12, s13, s14, s15, s16, s17, s18, s19, s20, s21, s22, s23, s24, s25, s26, s27, s28, s29, s30, s31, s32, s33, s34, s35, s36, s37, s38, s39, s40, s41, s42, s43, s44⟩; go_simp; with_reducible rfl)
               refine tV 30 137 (bl 69 2147483647) HT_.out HW_.out hHeld ?_ (hv := by rintro w' ⟨s0, s1, s2, s3, s4, s5, s6, s7, s8, s9, s10, s11, s12, s13, s14, s15, s16, s17, s18, s19, s20, s21, s22, s23, s24, s25, s26, s27, s28, s29, s30, s31, s32, s33, s34, s35, s36, s37, s38, s39, s40, s41, s42, s43, s44⟩; go_simp; with_reducible rfl)
               refine pV 31 138 (bl 69 4294967295) HT_.out ?_
               refine pV 32 139 (bl 69 8589934591) HT_.out ?_
               refine pV 33 140 (bl 69 17179869183) HT_.out ?_
               refine pV 34 141 (bl 69 34359738367) HT_.out ?_
               refine pV 35 142 (bl 69 68719476735) HT_.out ?_
               refine pV 36 143 (bl 69 137438953471) HT_.out ?_
               refine pV 39 146 (bl 69 687194767359) HT_.out ?_
               refine pV 40 147 (bl 69 1786706395135) HT_.out ?_
               refine pV 41 148 (bl 69 3985729650687) HT_.out ?_
               refine pV 42 149 (bl 69 8383776161791) HT_.out ?_
               refine tV 37 144 (bl 69 8521215115263) HT_.out HW_.out hHeld ?_ (hv := by rintro w' ⟨s0, s1, s2, s3, s4, s5, s6, s7, s8, s9, s10, s11, s12, s13, s14, s15, s16, s17, s18, s19, s20, s21, s22, s23, s24, s25, s26, s27, s28, s29, s30, s31, s32, s33, s34, s35, s36, s37, s38, s39, s40, s41, s42, s43, s44⟩; go_simp; with_reducible rfl)
               refine pV 38 145 (bl 69 8796093022207) HT_.out ?_
               refine tV 43 150 (bl 69 17592186044415) HT_.out HW_.out hHeld ?_ (hv := by rintro w' ⟨s0, s1, s2, s3, s4, s5, s6, s7, s8, s9, s10, s11, s12, s13, s14, s15, s16, s17, s18, s19, s20, s21, s22, s23, s24, s25, s26, s27, s28, s29, s30, s31, s32, s33, s34, s35, s36, s37, s38, s39, s40, s41, s42, s43, s44⟩; go_simp; with_reducible rfl)
               refine pV 44 151 (bl 69 35184372088831) HT_.out ?_
               refine pV 45 152 (bl 69 70368744177663) HT_.out ?_
               refine pV 46 153 (bl 69 140737488355327) HT_.out ?_
               refine pV 47 154 (bl 69 281474976710655) HT_.out ?_
               refine pV 48 155 (bl 69 562949953421311) HT_.out ?_
               refine pV 49 156 (bl 69 1125899906842623) HT_.out ?_
               refine pV 50 157 (bl 69 2251799813685247) HT_.out ?_
               refine pV 53 160 (bl 69 11258999068426239) HT_.out ?_
               refine pV 54 161 (bl 69 29273397577908223) HT_.out ?_
               refine pV 55 162 (bl 69 65302194596872191) HT_.out ?_
               refine pV 56 163 (bl 69 137359788634800127) HT_.out ?_
               refine tV 51 158 (bl 69 139611588448485375) HT_.out HW_.out hHeld ?_ (hv := by rintro w' ⟨s0, s1, s2, s3, s4, s5, s6, s7, s8, s9, s10, s11, s12, s13, s14, s15, s16, s17, s18, s19, s20, s21, s22, s23, s24, s25, s26, s27, s28, s29, s30, s31, s32, s33, s34, s35, s36, s37, s38, s39, s40, s41, s42, s43, s44⟩; go_simp; with_reducible rfl)
               refine pV 52 159 (bl 69 144115188075855871) HT_.out ?_
               refine tV 57 164 (bl 69 288230376151711743) HT_.out HW_.out hHeld ?_ (hv := by rintro w' ⟨s0, s1, s2, s3, s4, s5, s6, s7, s8, s9, s10, s11, s12, s13, s14, s15, s16, s17, s18, s19, s20, s21, s22, s23, s24, s25, s26, s27, s28, s29, s30, s31, s32, s33, s34, s35, s36, s37, s38, s39, s40, s41, s42, s43, s44⟩; go_simp; with_reducible rfl)
               refine pV 58 165 (bl 69 576460752303423487) HT_.out ?_
               refine pV 59 166 (bl 69 1152921504606846975) HT_.out ?_
               refine pV 60 167 (bl 69 2305843009213693951) HT_.out ?_
               refine pV 61 168 (bl 69 4611686018427387903) HT_.out ?_
               refine pV 62 169 (bl 69 9223372036854775807) HT_.out ?_
               refine pV 63 170 (bl 69 18446744073709551615) HT_.out ?_
               refine pV 64 171 (bl 69 36893488147419103231) HT_.out ?_
               refine pV 65 172 (bl 69 73786976294838206463) HT_.out ?_
               refine pV 66 173 (bl 69 147573952589676412927) HT_.out ?_
               refine pV 67 174 (bl 69 295147905179352825855) HT_.out ?_
               refine pV 68 175 (bl 69 590295810358705651711) HT_.out ?_
               refine done_ (done_of HT_.out (by kernel_rfl)) ?_
               try go_wp2
               go_roundg k4
               case measure => have := HJ6.out; have := HJ16.out; have := HJ21.out; have := HK4.out; omega
               case rel => exact ⟨(wrap64 (x15_4 + 1)), (by first | rfl | (simp; done) | (simp [*]; done)), H', ⟨by have := HJ6.out; have := HJ16.out; have := HJ21.out; have := HK4.out; omega⟩, ⟨by repeat (first | (with_reducible first | exact HB.out | apply bAl | apply pbD | apply bD1) | exact HB.out)⟩⟩
             rw [if_pos c42] at H
             have c42b0 : decide (x15_4 < t101) = true := decide_eq_true c42
             clear c42
             exact absurd ((oI H).trans hT.out) (by decide)
            rw [if_pos c40] at H
            have c40b0 : decide ((((rd_T33 l0 t101).f1).size : Int) < (((rd_T33 l0 x15_4).f1).size : Int)) = true := decide_eq_true c40
            have c40b1 : decide (((rd_T33 l0 t101).f1).size < ((rd_T33 l0 x15_4).f1).size) = true := decide_eq_true (Int.ofNat_lt.mp c40)
            clear c40
            exact absurd ((oI H).trans hT.out) (by decide)
           rw [if_pos c38] at H
           have c38b0 : decide (((rd_T33 l0 x15_4).f3) < ((rd_T33 l0 t101).f3)) = true := decide_eq_true c38
           clear c38
           exact absurd ((oI H).trans hT.out) (by decide)
        subst c31
        have H1 : (some false) = some r := by rw [if_pos rfl] at H; exact H
        clear H
        have H := H1
        clear H1
        exact absurd ((oI H).trans hT.out) (by decide)
     subst c20
     have H1 : (some false) = some r := by rw [if_pos rfl] at H; exact H
     clear H
     have H := H1
     clear H1
     exact absurd ((oI H).trans hT.out) (by decide)
end Go.Proofs.Ytbpbniemjjhecaa.PChk
