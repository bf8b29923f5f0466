import Derived.Test.YtbpbniemjjhecaaZPChk0
import Derived.Test.YtbpbniemjjhecaaZGPartAw
import Derived.Test.YtbpbniemjjhecaaProg
import Derived.Below
import Derived.Deep.Draws
import Derived.Deep.AppendLies
import Derived.Maps.AppendAt
import Derived.OwnWalk
import Derived.Laws.BytesArg
import Derived.Laws.MakeOwn
import Derived.Laws.OwnMore
import Derived.Deep.OwnRows
import Derived.Tactics
import Derived.Lib.ConvBytes
import Derived.Laws.Slices
import Derived.WalkKit
import Derived.KernelRfl
import Derived.RowKit3
import Derived.Deep.LoopGhost
import Derived.Deep.QuietTactic
import Derived.BigQuiet
import Derived.WideLaws
import Derived.Deep.DeepCutAuto
import Derived.Deep.CutBlock
import Derived.Deep.RegionHeld3
import Derived.Laws.Rows
import Derived.Lib.AppendStr
import Derived.ArgAppend
import Derived.Laws.IdiomCopy
import Derived.OrdersHeld
import Derived.Laws.BitsLemmas
import Derived.RowKit
import Derived.Test.YtbpbniemjjhecaaZGCharsCase
import Derived.Test.YtbpbniemjjhecaaZPPar1
import Derived.Test.YtbpbniemjjhecaaZPPar3
import Derived.Test.YtbpbniemjjhecaaZPChk6
import Derived.Test.YtbpbniemjjhecaaZWSized
namespace Go.Proofs.Ytbpbniemjjhecaa.PChk
open Go.RowKit Go.Proofs.Ytbpbniemjjhecaa.G Go.Proofs.Ytbpbniemjjhecaa.PChk Go.Proofs.YtbpbniemjjhecaaW.PrintWords Go.Proofs.YtbpbniemjjhecaaW.PrintLast Go.Proofs.YtbpbniemjjhecaaW.PrintMore
attribute [local go_sem] max2_int min2_int max_two min_two max_three min_three max_four min_four
set_option linter.unusedVariables false
set_option linter.unusedSimpArgs false
set_option maxHeartbeats 8000000
set_option maxRecDepth 100000
mutual
def pTaken.j0 : Nat → List (S33) → ByteArray → Int → Tr → List Int → Bool → Option (Bool)
 | 0, _, _, _, _, _, _ => none
 | k + 1, x0, x1, x2, x7, x10, x49 => if x49 = true then (if (x10.length : Int) = 0 then ((w11_awake.f).bind fun t105 => (some t105)) else (some false)) else (pTaken.l0 k x0 x1 x7 x10 x2 0)
def pTaken.l0 : Nat → List (S33) → ByteArray → Tr → List Int → Int → Int → Option (Bool)
 | 0, _, _, _, _, _, _ => none
 | k + 1, x0, x1, x7, x10, x11, x12 => if x12 < (x10.length : Int) then ((part_Best.f x7 x1 x11 (x1.size : Int)).bind fun bt107 => (if bt107.2 = true then (if 0 ≤ x12 then (if bt107.1 = (rd x10 x12) then (if bt107.1 < 0 then (pTaken.j2 k x0 x1 x7 x10 x11 x12 bt107.1 true) else (if bt107.1 ≥ (x0.length : Int) then (pTaken.j2 k x0 x1 x7 x10 x11 x12 bt107.1 true) else ((part_All.f x7 x1 x11).bind fun t110 => (if x12 ≤ (x10.length : Int) then ((w11_same.f k t110 (x10.drop (x12 : Int).toNat)).bind fun t117 => (pTaken.j2 k x0 x1 x7 x10 x11 x12 bt107.1 (!t117))) else (none))))) else (pTaken.j2 k x0 x1 x7 x10 x11 x12 bt107.1 true)) else (none)) else (pTaken.j2 k x0 x1 x7 x10 x11 x12 bt107.1 true))) else (if x11 = (x1.size : Int) then ((w11_awake.f).bind fun t106 => (some t106)) else (some false))
def pTaken.j2 : Nat → List (S33) → ByteArray → Tr → List Int → Int → Int → Int → Bool → Option (Bool)
 | 0, _, _, _, _, _, _, _, _ => none
 | k + 1, x0, x1, x7, x10, x11, x12, x13, x102 => if x102 = true then (some false) else (if 0 ≤ x13 then (if x13 < (x0.length : Int) then (if (((rd_T33 x0 x13).f1).size : Int) < 1 then (some false) else (if (wrap64 (x11 + (((rd_T33 x0 x13).f1).size : Int))) > (x1.size : Int) then (some false) else (if 0 ≤ x11 then (if x11 ≤ (wrap64 (x11 + (((rd_T33 x0 x13).f1).size : Int))) then (if (wrap64 (x11 + (((rd_T33 x0 x13).f1).size : Int))) ≤ (x1.size : Int) then (if (x1.extract (x11 : Int).toNat ((wrap64 (x11 + (((rd_T33 x0 x13).f1).size : Int))) : Int).toNat).toList = ((rd_T33 x0 x13).f1).toList then (pTaken.l0 k x0 x1 x7 x10 (wrap64 (x11 + (((rd_T33 x0 x13).f1).size : Int))) (wrap64 (x12 + 1))) else (some false)) else (none)) else (none)) else (none)))) else (none)) else (none))
end
def pTaken.f (k : Nat) (l0 : List (S33)) (a1 : ByteArray) (a2 : Int) (a3 : Tr) : Option (Bool) := (part_All.f a3 a1 a2).bind fun t101 => ((chars_Case.f a1).bind fun t104 => (if t104 = 1 then (if a2 < 0 then (pTaken.j0 k l0 a1 a2 a3 t101 true) else (pTaken.j0 k l0 a1 a2 a3 t101 (decide (a2 ≥ (a1.size : Int))))) else (pTaken.j0 k l0 a1 a2 a3 t101 true)))
def pTaken.T14 : Bool × List (List Nat × List Nat) := (true, [([], []), ([0], [0]), ([1], [1]), ([2], [2]), ([2], [2]), ([2], [2]), ([4, 5, 2], [2, 4, 5]), ([6, 2], [2, 6]), ([3, 7, 2], [2, 3, 7]), ([2, 8], [2, 8]), ([9, 2], [9]), ([10], [10]), ([11, 10], [10, 11]), ([10, 12], [10, 12]), ([13, 10], [13]), ([14], [14]), ([14], [14]), ([16, 14], [14, 16]), ([15, 17, 14], [14, 15, 17]), ([14, 18], [14, 18]), ([19, 14], [19]), ([20], [20]), ([20], [20]), ([20], [20]), ([21, 22, 23, 20, 20], [20, 21, 22, 23]), ([20], [20]), ([20], [20]), ([25, 26, 20], [20, 25, 26]), ([24, 27, 24, 20], [20, 24, 27]), ([28, 20], [20, 28]), ([20, 29], [20, 29])])
def pTaken.B14 : List Nat := [0, 1, 3, 7, 7, 7, 55, 119, 255, 511, 1023, 2047, 4095, 8191, 16383, 32767, 32767, 98303, 262143, 524287, 1048575, 2097151, 2097151, 2097151, 16777215, 2097151, 2097151, 102760447, 268435455, 536870911, 1073741823]
theorem pTaken.tab14 : rtab .any (opsOf Try.f7 14) = pTaken.T14 := by kernel_rfl
theorem pTaken.bits14 : waitsOk pTaken.T14.2 pTaken.B14 = true := by kernel_rfl
def pTaken.T17 : Bool × List (List Nat × List Nat) := (true, [([], []), ([0], [0]), ([1], [1]), ([2], [2]), ([2], [2]), ([3, 4, 2], [2, 3, 4]), ([2], [2]), ([6, 2], [2, 6]), ([5, 7, 2], [2, 5, 7]), ([2, 8], [2, 8]), ([9, 2], [9]), ([10], [10]), ([10], [10]), ([10], [10]), ([10], [10]), ([13, 14, 10], [10, 13, 14]), ([11, 12, 15, 10], [10, 11, 12, 15]), ([10], [10]), ([10], [10]), ([17, 18, 10], [10, 17, 18]), ([19, 10], [10, 19]), ([20, 10], [10, 20]), ([16, 21, 10], [10, 16, 21]), ([10, 22], [10, 22])])
def pTaken.B17 : List Nat := [0, 1, 3, 7, 7, 31, 7, 71, 255, 511, 1023, 2047, 2047, 2047, 2047, 26623, 65535, 2047, 2047, 395263, 919551, 1968127, 4194303, 8388607]
theorem pTaken.tab17 : rtab .any (opsOf Try.f7 17) = pTaken.T17 := by kernel_rfl
theorem pTaken.bits17 : waitsOk pTaken.T17.2 pTaken.B17 = true := by kernel_rfl
theorem pTaken.calls (k : Nat) (A0 : Option Addr) (c0 : Nat) (l0 : List Rl) (a1 : ByteArray) (a2 : Int) (r : Bool) (w00 : World) (hr0 : Kd.C k33 w00 A0 l0.length l0) (hc0 : l0.length ≤ c0) (hL : w11_long.f 500 l0 = some false) (h60 : a1.size ≤ 60) (hn : trie_New.f l0 = some (some (some l0), 0, 0)) (hf : ∀ v, pTaken.f k l0 a1 a2 ⟨v, some (some l0)⟩ = some r) (hT0 : r = true) :
  Calls Try.prog 7 #[.slice A0 l0.length c0, .string a1, .int .i64 a2] w00 fun e w' => e = .returned (.bool r) ∧ Below w00.heap.size w00 w' := by
 have h1 := w11_long.calls 500 A0 c0 l0 false w00 hr0 hc0 hL
 have HR := Lib.hid hr0
 have HF := aK hf
 have HN := Lib.hid hn
 have HC := Lib.hid hc0
 have h6 : decide ((a1.size : Int) > 60) = false := decide_eq_false (by omega)
 have h7 : decide ((60 : Int) < (a1.size : Int)) = false := decide_eq_false (by omega)
 clear hf hn hr0 hL hc0 h60
 go_enter Try.func7, Try.ntmps7
 try dsimp only [List.append]
 go_wp2_with fail
 go_at_call 25
 refine h1.mono ?_
 rintro e w1 ⟨rfl, b1⟩
 have HB1 := Lib.hid b1.below
 clear b1 h1
 go_wp2_with fail
 go_at_call 11
 refine (trie_New.calls A0 c0 l0 (some (some l0)) 0 0 w1 (Kd.C_below HR.out HB1.out) HC.out HN.out).mono ?_
 rintro e w ⟨v, rfl, ht, b2⟩
 have HT2 := Lib.hid ht
 have HB2 := Lib.hid (bSp HB1.out b2)
 clear b2 ht HB1
 go_upto_region 6 with (fail)
 have HB00 := aK HB2.out
 obtain ⟨a3, ea⟩ : ∃ a3 : Tr, a3 = ⟨v, some (some l0)⟩ := ⟨_, rfl⟩
 have hT3 : Tr.Is w a3 := by rw [ea]; exact HT2.out
 have h := HF.out v
 rw [← ea] at h
 obtain rfl : v = a3.v := by rw [ea]
 have hr0 := Kd.C_below HR.out HB2.out
 have hc0 := HC.out
 clear HT2 HC HF HB2 HR HN ea h6 h7
 have HR0 := aK hr0
 have HC0 := aK hc0
 clear hr0 hc0
 have HT3 := aK hT3
 clear hT3
 have HB := aK (Below.refl w.heap.size w)
 have H : ((part_All.f a3 a1 a2).bind fun t101 => ((chars_Case.f a1).bind fun t104 => (if t104 = 1 then (if a2 < 0 then (pTaken.j0 k l0 a1 a2 a3 t101 true) else (pTaken.j0 k l0 a1 a2 a3 t101 (decide (a2 ≥ (a1.size : Int))))) else (pTaken.j0 k l0 a1 a2 a3 t101 true)))) = some r := h
 clear h
 have hT := aK hT0
 clear hT0
 replace H := oB H
 obtain ⟨t101, A50, H⟩ := H
 try dsimp only at H
 have A5 := aK A50
 clear A50
 have HC6 := aK H
 clear H
 go_upto_region 7 with (first | ((with_reducible refine gate_callee (f := 27) rfl ?_); refine goesL_ (some 36) rfl rfl Try.func27 (by kernel_rfl) rfl #[a3.v, .string a1, .int .i64 a2] rfl (by (try simp only [qM0, qM1, qM2]); first | done | rfl | (simp only [qD0, qD1]; rfl)) ?_; (with_reducible refine (part_All.calls a3 a1 a2 t101 _ ?side1 A5.out).mono ?_); (case side1 => exact Tr.Is.below HT3.out (by repeat (first | (with_reducible first | exact HB.out | apply bAl | apply pbD | apply bD1) | exact HB.out))); rintro e w7 ⟨v102, rfl, ho0, hb⟩; refine ⟨_, rfl, ?_⟩; have n0_ := aK (Kd.R_lower ho0 (bSz (by repeat (first | (with_reducible first | exact HB.out | apply bAl | apply pbD | apply bD1) | exact HB.out)))); have n1_ := aK (bSp (by repeat (first | (with_reducible first | exact HB.out | apply bAl | apply pbD | apply bD1) | exact HB.out)) hb); clear HB; have HO103 := n0_; have HB := n1_; clear n0_ n1_; (try clear hb); (try clear hb2); (try clear hk); (try clear hi); (try clear ho0)))
 (try simp only [Act.put, qSa, qS0, qS1])
 go_cut [49] (fun v49 wc => ∃ (kq : Nat) (x49_5 : Bool), v49 = .bool x49_5 ∧ Aside0 (pTaken.j0 kq l0 a1 a2 a3 t101 x49_5 = some r) ∧ Aside0 (kq ≤ k) ∧ Aside0 (Kd.R (Kd.int .i64) 3 wc w.heap.size (fun _ => True) v102 t101) ∧ Aside0 (Below w.heap.size w wc))
 case first =>
  have H := HC6.out
  clear HC6
  replace H := oB H
  obtain ⟨t104, A80, H⟩ := H
  try dsimp only at H
  have A8 := aK A80
  clear A80
  by_cases c9 : t104 = 1
  rotate_left
  ·
   rw [if_neg c9] at H
   have c9b0 : (t104 == 1) = false := beq_eq_false_iff_ne.mpr c9
   have c9b1 : (t104 != 1) = true := bne_iff_ne.mpr c9
   (first | rw [c9b0] | (simp only [i64_w, i32_w]; rw [c9b0]) | skip)
   have H' := aK H
   clear H
   go_wp2_with (first | ((with_reducible refine gate_callee (f := 28) rfl ?_); refine goesL_ (some 38) rfl rfl Try.func28 (by kernel_rfl) rfl #[.string a1] rfl (by (try simp only [qM0, qM1, qM2]); first | done | rfl | (simp only [qD0, qD1]; rfl)) ?_; (with_reducible refine (chars_Case.calls a1 t104 _ A8.out).mono ?_); rintro e w13 ⟨rfl, hb⟩; refine ⟨_, rfl, ?_⟩; have n0_ := aK (Kd.R_below (by (with_reducible repeat (first | apply Kd.R_alloc | apply Kd.R_drewN | apply Kd.R_drew)); exact HO103.out) hb); have n1_ := aK (bSp (by repeat (first | (with_reducible first | exact HB.out | apply bAl | apply pbD | apply bD1) | exact HB.out)) hb); clear HO103; clear HB; have HO103 := n0_; have HB := n1_; clear n0_ n1_; (try clear hb); (try clear hb2); (try clear hk); (try clear hi)))
   go_meet
   case rel => exact ⟨_, (true), (by first | rfl | (simp; done) | (simp [*]; done)), H', ⟨by first | omega | exact Nat.le_refl _⟩, ⟨by (with_reducible repeat (first | apply Kd.R_alloc | apply Kd.R_drewN | apply Kd.R_drew)); exact HO103.out⟩, ⟨by repeat (first | (with_reducible first | exact HB.out | apply bAl | apply pbD | apply bD1) | exact HB.out)⟩⟩
  rw [if_pos c9] at H
  have c9b0 : (t104 == 1) = true := beq_iff_eq.mpr c9
  have c9b1 : (t104 != 1) = false := bne_eq_false_iff_eq.mpr c9
  clear c9
  (first | rw [c9b0] | (simp only [i64_w, i32_w]; rw [c9b0]) | skip)
  by_cases c10 : a2 < 0
  rotate_left
  ·
   rw [if_neg c10] at H
   have c10b0 : decide (a2 < 0) = false := decide_eq_false c10
   clear c10
   have H' := aK H
   clear H
   go_wp2_with (first | ((with_reducible refine gate_callee (f := 28) rfl ?_); refine goesL_ (some 38) rfl rfl Try.func28 (by kernel_rfl) rfl #[.string a1] rfl (by (try simp only [qM0, qM1, qM2]); first | done | rfl | (simp only [qD0, qD1]; rfl)) ?_; (with_reducible refine (chars_Case.calls a1 t104 _ A8.out).mono ?_); rintro e w12 ⟨rfl, hb⟩; refine ⟨_, rfl, ?_⟩; have n0_ := aK (Kd.R_below (by (with_reducible repeat (first | apply Kd.R_alloc | apply Kd.R_drewN | apply Kd.R_drew)); exact HO103.out) hb); have n1_ := aK (bSp (by repeat (first | (with_reducible first | exact HB.out | apply bAl | apply pbD | apply bD1) | exact HB.out)) hb); clear HO103; clear HB; have HO103 := n0_; have HB := n1_; clear n0_ n1_; (try clear hb); (try clear hb2); (try clear hk); (try clear hi)))
   go_meet
   case rel => exact ⟨_, (decide (a2 ≥ (a1.size : Int))), (by first | rfl | (simp; done) | (simp [*]; done)), H', ⟨by first | omega | exact Nat.le_refl _⟩, ⟨by (with_reducible repeat (first | apply Kd.R_alloc | apply Kd.R_drewN | apply Kd.R_drew)); exact HO103.out⟩, ⟨by repeat (first | (with_reducible first | exact HB.out | apply bAl | apply pbD | apply bD1) | exact HB.out)⟩⟩
  rw [if_pos c10] at H
  have c10b0 : decide (a2 < 0) = true := decide_eq_true c10
  clear c10
  have H' := aK H
  clear H
  go_wp2_with (first | ((with_reducible refine gate_callee (f := 28) rfl ?_); refine goesL_ (some 38) rfl rfl Try.func28 (by kernel_rfl) rfl #[.string a1] rfl (by (try simp only [qM0, qM1, qM2]); first | done | rfl | (simp only [qD0, qD1]; rfl)) ?_; (with_reducible refine (chars_Case.calls a1 t104 _ A8.out).mono ?_); rintro e w11 ⟨rfl, hb⟩; refine ⟨_, rfl, ?_⟩; have n0_ := aK (Kd.R_below (by (with_reducible repeat (first | apply Kd.R_alloc | apply Kd.R_drewN | apply Kd.R_drew)); exact HO103.out) hb); have n1_ := aK (bSp (by repeat (first | (with_reducible first | exact HB.out | apply bAl | apply pbD | apply bD1) | exact HB.out)) hb); clear HO103; clear HB; have HO103 := n0_; have HB := n1_; clear n0_ n1_; (try clear hb); (try clear hb2); (try clear hk); (try clear hi)))
  go_meet
  case rel => exact ⟨_, (true), (by first | rfl | (simp; done) | (simp [*]; done)), H', ⟨by first | omega | exact Nat.le_refl _⟩, ⟨by (with_reducible repeat (first | apply Kd.R_alloc | apply Kd.R_drewN | apply Kd.R_drew)); exact HO103.out⟩, ⟨by repeat (first | (with_reducible first | exact HB.out | apply bAl | apply pbD | apply bD1) | exact HB.out)⟩⟩
 case rest =>
  clear HC6
  try clear c1
  try clear c2
  try clear p2
  try clear c7
  try clear c9
  try clear c9b0
  try clear c9b1
  try clear c10
  try clear c10b0
  obtain ⟨kq, x49_5, rfl, HA, HJ5, HO_10, HB⟩ := hcut
  cases kq with
  | zero => exact absurd HA.out (by simp [pTaken.j0])
  | succ kj5 =>
   have H := HA.out
   clear HA
   simp only [pTaken.j0] at H
   by_cases c14 : x49_5 = true
   rotate_left
   ·
    replace c14 := Bool.eq_false_iff.mpr c14
    subst c14
    have H1 : (pTaken.l0 kj5 l0 a1 a3 t101 a2 0) = some r := by rw [if_neg (show ¬ (false = true) by decide)] at H; exact H
    clear H
    have H := H1
    clear H1
    have H' := aK H
    clear H
    go_wp2
    go_loopg [11, 12] kj5 (fun kq v11 v12 w' => ∃ (x11_2 : Int) (x12_2 : Int), v11 = .int .i64 x11_2 ∧ v12 = .int .i64 x12_2 ∧ Aside0 (pTaken.l0 kq l0 a1 a3 t101 x11_2 x12_2 = some r) ∧ Aside0 (kq ≤ kj5) ∧ Aside0 (Kd.R (Kd.int .i64) 3 w' w.heap.size (fun _ => True) v102 t101) ∧ Aside0 (Below w.heap.size w w'))
    case atStart => exact ⟨(a2), (0), (by first | rfl | (simp; done) | (simp [*]; done)), (by first | rfl | (simp; done) | (simp [*]; done)), H', ⟨Nat.le_refl _⟩, ⟨by (with_reducible repeat (first | apply Kd.R_alloc | apply Kd.R_drewN | apply Kd.R_drew)); exact HO_10.out⟩, ⟨by repeat (first | (with_reducible first | exact HB.out | apply bAl | apply pbD | apply bD1) | exact HB.out)⟩⟩
    case round =>
     clear H'
     try clear c1
     try clear c2
     try clear p2
     try clear c7
     try clear c9
     try clear c9b0
     try clear c9b1
     try clear c10
     try clear c10b0
     try clear c14
     try clear c15
     try clear c15b0
     try clear c15b1
     try clear c15b2
     try clear p2
     obtain ⟨x11_2, x12_2, rfl, rfl, HA, HK2, HO_10, HB⟩ := hrel
     cases gk with
     | zero => exact absurd HA.out (by simp [pTaken.l0])
     | succ k2 =>
      have H := HA.out
      clear HA
      simp only [pTaken.l0] at H
      by_cases c19 : x12_2 < (t101.length : Int)
      rotate_left
      ·
       rw [if_neg c19] at H
       have c19b0 : decide (x12_2 < (t101.length : Int)) = false := decide_eq_false c19
       clear c19
       by_cases c51 : x11_2 = (a1.size : Int)
       rotate_left
       ·
        rw [if_neg c51] at H
        have c51b0 : (x11_2 == (a1.size : Int)) = false := beq_eq_false_iff_ne.mpr c51
        have c51b1 : (x11_2 != (a1.size : Int)) = true := bne_iff_ne.mpr c51
        exact absurd ((oI H).trans hT.out) (by decide)
       rw [if_pos c51] at H
       have c51b0 : (x11_2 == (a1.size : Int)) = true := beq_iff_eq.mpr c51
       have c51b1 : (x11_2 != (a1.size : Int)) = false := bne_eq_false_iff_eq.mpr c51
       clear c51
       replace H := oB H
       obtain ⟨t106, A520, H⟩ := H
       replace H : (some t106) = some r := H
       have A52 := aK A520
       clear A520
       obtain rfl := oI H
       obtain ⟨Ao53, co53, eo53⟩ := Kd.R_slice HO_10.out
       subst eo53
       go_wp2_with (first | (go_at_call 26; (with_reducible refine (w11_awake.calls  t106 _ A52.out).mono ?_); rintro e w54 ⟨rfl, hb⟩; have n0_ := aK (Kd.R_below (by (with_reducible repeat (first | apply Kd.R_alloc | apply Kd.R_drewN | apply Kd.R_drew)); exact HO_10.out) hb); have n1_ := aK (bSp (by repeat (first | (with_reducible first | exact HB.out | apply bAl | apply pbD | apply bD1) | exact HB.out)) hb); clear HO_10; clear HB; have HO_10 := n0_; have HB := n1_; clear n0_ n1_; (try clear hb); (try clear hb2); (try clear hk); (try clear hi)))
       go_ret
       exact ⟨by first | rfl | (simp [eWn, eWs] <;> rfl) | (simp [*, eWn, eWs] <;> rfl), bSp HB00.out (by repeat (first | (with_reducible first | exact HB.out | apply bAl | apply pbD | apply bD1) | exact HB.out))⟩
      rw [if_pos c19] at H
      have c19b0 : decide (x12_2 < (t101.length : Int)) = true := decide_eq_true c19
      clear c19
      replace H := oB H
      obtain ⟨⟨t107, t108⟩, A200, H⟩ := H
      try dsimp only at H
      have A20 := aK A200
      clear A200
      have HC21 := aK H
      clear H
      obtain ⟨Ao22, co22, eo22⟩ := Kd.R_slice HO_10.out
      subst eo22
      go_upto_region 14 with (first | ((with_reducible refine gate_callee (f := 29) rfl ?_); refine goesL_ (some 69) rfl rfl Try.func29 (by kernel_rfl) rfl #[a3.v, .string a1, .int .i64 x11_2, .int .i64 (a1.size : Int)] rfl (by (try simp only [qM0, qM1, qM2]); first | done | rfl | (simp only [qD0, qD1]; rfl)) ?_; (with_reducible refine (part_Best.calls a3 a1 x11_2 (a1.size : Int) t107 t108 _ ?side1 A20.out).mono ?_); (case side1 => exact Tr.Is.below HT3.out (by repeat (first | (with_reducible first | exact HB.out | apply bAl | apply pbD | apply bD1) | exact HB.out))); rintro e w23 ⟨rfl, hb⟩; refine ⟨_, rfl, ?_⟩; have n0_ := aK (Kd.R_below (by (with_reducible repeat (first | apply Kd.R_alloc | apply Kd.R_drewN | apply Kd.R_drew)); exact HO_10.out) hb); have n1_ := aK (bSp (by repeat (first | (with_reducible first | exact HB.out | apply bAl | apply pbD | apply bD1) | exact HB.out)) hb); clear HO_10; clear HB; have HO_10 := n0_; have HB := n1_; clear n0_ n1_; (try clear hb); (try clear hb2); (try clear hk); (try clear hi)))
      (try simp only [Act.put, qSa, qS0, qS1])
      go_cut [102] (fun v102 wc => ∃ (kq : Nat) (x102_20 : Bool), v102 = .bool x102_20 ∧ Aside0 (pTaken.j2 kq l0 a1 a3 t101 x11_2 x12_2 t107 x102_20 = some r) ∧ Aside0 (kq ≤ k2) ∧ Aside0 (Kd.R (Kd.int .i64) 3 wc w.heap.size (fun _ => True) (.slice Ao22 t101.length co22) t101) ∧ Aside0 (Below w.heap.size w wc))
      case first =>
       have H := HC21.out
       clear HC21
       by_cases c24 : t108 = true
       rotate_left
       ·
        replace c24 := Bool.eq_false_iff.mpr c24
        subst c24
        have H1 : (pTaken.j2 k2 l0 a1 a3 t101 x11_2 x12_2 t107 true) = some r := by rw [if_neg (show ¬ (false = true) by decide)] at H; exact H
        clear H
        have H := H1
        clear H1
        have H' := aK H
        clear H
        try go_wp2
        have n0_ := aK (Kd.R_drew HO_10.out)
        have n1_ := aK (bD1 HB.out)
        clear HO_10
        clear HB
        have HO_10 := n0_
        have HB := n1_
        clear n0_ n1_
        refine start_ (n := 31) (S := fun w' => True) (ds := []) (bl 31 0) (by kernel_rfl) rfl (by kernel_rfl) trivial (fun hHeld => ?_); refine with_tabW pTaken.tab14 pTaken.bits14 (fun HT_ HW_ => ?_)
        generalize w23.drew = w40 at HO_10 HB hHeld ⊢
        refine pV 0 72 (bl 31 1) HT_.out ?_
        refine pV 1 73 (bl 31 3) HT_.out ?_
        refine pV 2 74 (bl 31 7) HT_.out ?_
        refine pU 3 75 (bl 31 15) HT_.out ?_
        refine pU 4 76 (bl 31 31) HT_.out ?_
        refine pU 5 77 (bl 31 63) HT_.out ?_
        refine pU 6 78 (bl 31 127) HT_.out ?_
        refine pU 7 79 (bl 31 255) HT_.out ?_
        refine pU 8 80 (bl 31 511) HT_.out ?_
        refine pV 9 81 (bl 31 1023) HT_.out ?_
        refine pV 10 82 (bl 31 2047) HT_.out ?_
        refine pU 11 83 (bl 31 4095) HT_.out ?_
        refine pU 12 84 (bl 31 8191) HT_.out ?_
        refine pV 13 85 (bl 31 16383) HT_.out ?_
        refine pV 14 86 (bl 31 32767) HT_.out ?_
        refine pU 15 87 (bl 31 65535) HT_.out ?_
        refine pU 16 88 (bl 31 131071) HT_.out ?_
        refine pU 17 89 (bl 31 262143) HT_.out ?_
        refine pU 18 90 (bl 31 524287) HT_.out ?_
        refine pV 19 91 (bl 31 1048575) HT_.out ?_
        refine pV 20 92 (bl 31 2097151) HT_.out ?_
        refine pU 21 93 (bl 31 4194303) HT_.out ?_
        refine pU 22 94 (bl 31 8388607) HT_.out ?_
        refine pU 23 95 (bl 31 16777215) HT_.out ?_
        refine pU 24 96 (bl 31 33554431) HT_.out ?_
        refine pU 25 97 (bl 31 67108863) HT_.out ?_
        refine pU 26 98 (bl 31 134217727) HT_.out ?_
        refine pU 27 99 (bl 31 268435455) HT_.out ?_
        refine pU 28 100 (bl 31 536870911) HT_.out ?_
        refine pU 29 101 (bl 31 1073741823) HT_.out ?_
        refine pV 30 102 (bl 31 2147483647) HT_.out ?_
        refine done_ (done_of HT_.out (by kernel_rfl)) ?_
        try go_wp2
        go_meet
        case rel => exact ⟨_, (true), (by first | rfl | (simp; done) | (simp [*]; done)), H', ⟨by have := HJ5.out; have := HK2.out; first | omega | exact Nat.le_refl _⟩, ⟨by (with_reducible repeat (first | apply Kd.R_alloc | apply Kd.R_drewN | apply Kd.R_drew)); exact HO_10.out⟩, ⟨by repeat (first | (with_reducible first | exact HB.out | apply bAl | apply pbD | apply bD1) | exact HB.out)⟩⟩
       subst c24
       have H1 : (if 0 ≤ x12_2 then (if t107 = (rd t101 x12_2) then (if t107 < 0 then (pTaken.j2 k2 l0 a1 a3 t101 x11_2 x12_2 t107 true) else (if t107 ≥ (l0.length : Int) then (pTaken.j2 k2 l0 a1 a3 t101 x11_2 x12_2 t107 true) else ((part_All.f a3 a1 x11_2).bind fun t110 => (if x12_2 ≤ (t101.length : Int) then ((w11_same.f k2 t110 (t101.drop (x12_2 : Int).toNat)).bind fun t117 => (pTaken.j2 k2 l0 a1 a3 t101 x11_2 x12_2 t107 (!t117))) else (none))))) else (pTaken.j2 k2 l0 a1 a3 t101 x11_2 x12_2 t107 true)) else (none)) = some r := by rw [if_pos rfl] at H; exact H
       clear H
       have H := H1
       clear H1
       by_cases c25 : 0 ≤ x12_2
       rotate_left
       ·
        rw [if_neg c25] at H
        exact absurd H (by simp)
       rw [if_pos c25] at H
       have c25b0 : decide (0 ≤ x12_2) = true := decide_eq_true c25
       clear c25
       (first | rw [c25b0] | (simp only [i64_w, i32_w]; rw [c25b0]) | skip)
       by_cases c26 : t107 = (rd t101 x12_2)
       rotate_left
       ·
        rw [if_neg c26] at H
        have c26b0 : (t107 == (rd t101 x12_2)) = false := beq_eq_false_iff_ne.mpr c26
        have c26b1 : (t107 != (rd t101 x12_2)) = true := bne_iff_ne.mpr c26
        have H' := aK H
        clear H
        try go_wp2
        have n0_ := aK (Kd.R_drew HO_10.out)
        have n1_ := aK (bD1 HB.out)
        clear HO_10
        clear HB
        have HO_10 := n0_
        have HB := n1_
        clear n0_ n1_
        have p109 : 0 ≤ (x12_2 : Int) := odT (by first | (with_reducible assumption) | assumption)
        have q109 : x12_2 < (t101.length : Int) := odT (by first | (with_reducible assumption) | assumption)
        obtain ⟨ad109, e109, hx109_0⟩ := Kd.at_int (Kd.R_reads' HO_10.out).2.2 x12_2 p109 q109
        cases e109
        replace p109 := eq_true p109
        replace q109 := eq_true q109
        refine start_ (n := 31) (S := fun w' => w'.cell? (ad109.add (x12_2).toNat) = some (.int .i64 (rd t101 x12_2))) (ds := []) (bl 31 0) (by kernel_rfl) rfl (by kernel_rfl) (hx109_0) (fun hHeld => ?_); refine with_tabW pTaken.tab14 pTaken.bits14 (fun HT_ HW_ => ?_)
        generalize w23.drew = w39 at HO_10 HB hx109_0 hHeld ⊢
        refine pV 0 72 (bl 31 1) HT_.out ?_
        refine pV 1 73 (bl 31 3) HT_.out ?_
        refine pV 2 74 (bl 31 7) HT_.out ?_
        refine pV 3 75 (bl 31 15) HT_.out ?_
        refine pV 4 76 (bl 31 31) HT_.out ?_
        refine pV 5 77 (bl 31 63) HT_.out ?_
        refine pV 6 78 (bl 31 127) HT_.out ?_
        refine tV 7 79 (bl 31 255) HT_.out HW_.out hHeld ?_ (hv := by intro w' s0; go_simp; with_reducible rfl)
        refine pV 8 80 (bl 31 511) HT_.out ?_
        refine pV 9 81 (bl 31 1023) HT_.out ?_
        refine pV 10 82 (bl 31 2047) HT_.out ?_
        refine pU 11 83 (bl 31 4095) HT_.out ?_
        refine pU 12 84 (bl 31 8191) HT_.out ?_
        refine pV 13 85 (bl 31 16383) HT_.out ?_
        refine pV 14 86 (bl 31 32767) HT_.out ?_
        refine pU 15 87 (bl 31 65535) HT_.out ?_
        refine pU 16 88 (bl 31 131071) HT_.out ?_
        refine pU 17 89 (bl 31 262143) HT_.out ?_
        refine pU 18 90 (bl 31 524287) HT_.out ?_
        refine pV 19 91 (bl 31 1048575) HT_.out ?_
        refine pV 20 92 (bl 31 2097151) HT_.out ?_
        refine pU 21 93 (bl 31 4194303) HT_.out ?_
        refine pU 22 94 (bl 31 8388607) HT_.out ?_
        refine pU 23 95 (bl 31 16777215) HT_.out ?_
        refine pU 24 96 (bl 31 33554431) HT_.out ?_
        refine pU 25 97 (bl 31 67108863) HT_.out ?_
        refine pU 26 98 (bl 31 134217727) HT_.out ?_
        refine pU 27 99 (bl 31 268435455) HT_.out ?_
        refine pU 28 100 (bl 31 536870911) HT_.out ?_
        refine pU 29 101 (bl 31 1073741823) HT_.out ?_
        refine pV 30 102 (bl 31 2147483647) HT_.out ?_
        refine done_ (done_of HT_.out (by kernel_rfl)) ?_
        try go_wp2
        go_meet
        case rel => exact ⟨_, (true), (by first | rfl | (simp; done) | (simp [*]; done)), H', ⟨by have := HJ5.out; have := HK2.out; first | omega | exact Nat.le_refl _⟩, ⟨by (with_reducible repeat (first | apply Kd.R_alloc | apply Kd.R_drewN | apply Kd.R_drew)); exact HO_10.out⟩, ⟨by repeat (first | (with_reducible first | exact HB.out | apply bAl | apply pbD | apply bD1) | exact HB.out)⟩⟩
       rw [if_pos c26] at H
       have c26b0 : (t107 == (rd t101 x12_2)) = true := beq_iff_eq.mpr c26
       have c26b1 : (t107 != (rd t101 x12_2)) = false := bne_eq_false_iff_eq.mpr c26
       clear c26
       by_cases c27 : t107 < 0
       rotate_left
       ·
        rw [if_neg c27] at H
        have c27b0 : decide (t107 < 0) = false := decide_eq_false c27
        clear c27
        by_cases c29 : t107 ≥ (l0.length : Int)
        rotate_left
        ·
         rw [if_neg c29] at H
         have c29b0 : decide ((l0.length : Int) ≤ t107) = false := decide_eq_false c29
         clear c29
         replace H := oB H
         obtain ⟨t110, A310, H⟩ := H
         try dsimp only at H
         have A31 := aK A310
         clear A310
         have c32b0 := eq_true (odT (by first | (with_reducible assumption) | assumption) : 0 ≤ x12_2)
         by_cases c33 : x12_2 ≤ (t101.length : Int)
         rotate_left
         ·
          rw [if_neg c33] at H
          exact absurd H (by simp)
         rw [if_pos c33] at H
         have c33b0 := eq_true c33
         have c33b1 : decide (x12_2 ≤ (t101.length : Int)) = true := decide_eq_true c33
         clear c33
         obtain ⟨y113, hy113⟩ : ∃ y_ : List Int, y_ = (t101.drop (x12_2 : Int).toNat) := ⟨_, rfl⟩
         replace H : ((w11_same.f k2 t110 y113).bind fun t117 => (pTaken.j2 k2 l0 a1 a3 t101 x11_2 x12_2 t107 (!t117))) = some r := by first | (rw [hy113]; with_reducible exact H) | (have H2_ := (Option.bind_some _ _).symm.trans H; rw [hy113]; with_reducible exact H2_) | (have H2_ := (Option.bind_some _ _).symm.trans H; with_reducible exact H2_) | with_reducible exact H | (rw [hy113]; exact H) | exact H
         have Ny113 := aK hy113
         clear hy113
         replace H := oB H
         obtain ⟨t117, A340, H⟩ := H
         try dsimp only at H
         have A34 := aK A340
         clear A340
         have H' := aK H
         clear H
         try go_wp2
         have n0_ := aK (Kd.R_drew HO_10.out)
         have n1_ := aK (bD1 HB.out)
         clear HO_10
         clear HB
         have HO_10 := n0_
         have HB := n1_
         clear n0_ n1_
         have p109 : 0 ≤ (x12_2 : Int) := odT (by first | (with_reducible assumption) | assumption)
         have q109 : x12_2 < (t101.length : Int) := odT (by first | (with_reducible assumption) | assumption)
         obtain ⟨ad109, e109, hx109_0⟩ := Kd.at_int (Kd.R_reads' HO_10.out).2.2 x12_2 p109 q109
         cases e109
         replace p109 := eq_true p109
         replace q109 := eq_true q109
         have q36 : (x12_2 : Int) ≤ ((t101.length : Int) : Int) := odT (by first | (with_reducible assumption) | assumption)
         obtain ⟨i036, hi036, _, hsz36, _⟩ := info_parts info3
         have hroom36 : t101.length ≤ co22 := (Kd.R_reads' HO_10.out).2.1
         have hC36 : Kd.C (Kd.int .i64) _ (some ad109) t101.length t101 := (Kd.R_reads' HO_10.out).2.2
         have q036 : (0 : Int) ≤ (x12_2 : Int) := odT (by first | (with_reducible assumption) | assumption)
         have hcut36 := cut_from (P := Try.prog) 30 3 .i64 Try.underlying30 hi036 1 hsz36 (some ad109) t101.length co22 x12_2 q036 q36
         have hr36 := Kd.C_drop (m := (x12_2 : Int).toNat) (c := co22) hC36 (by omega) hroom36
         obtain ⟨A36, hA36⟩ : ∃ A1, A1 = (if co22 = (x12_2 : Int).toNat then (some ad109) else ((some ad109) : Option Addr).map (·.add ((x12_2 : Int).toNat * 1))) := ⟨_, rfl⟩
         obtain ⟨c36, hc36⟩ : ∃ c1, c1 = co22 - (x12_2 : Int).toNat := ⟨_, rfl⟩
         have hy36 : y113.length = t101.length - (x12_2 : Int).toNat := (by rw [Ny113.out, qD0] <;> omega)
         rw [show (t101).drop (x12_2 : Int).toNat = y113 from Ny113.out.symm] at hr36
         replace hr36 : Kd.C (Kd.int .i64) _ A36 y113.length y113 := (by rw [hA36]; exact hr36)
         rw [← hy36, ← hA36, ← hc36] at hcut36
         have HR116 := aK hr36
         have HC116 := aK (show y113.length ≤ c36 from by rw [hy36, hc36]; exact Nat.sub_le_sub_right hroom36 _)
         clear hr36 hC36 hroom36 hi036 hsz36 hc36
         have KY36 := aK hy36
         have KA36 := aK hA36
         clear hy36 hA36
         have KL36 := aK (show (x12_2 : Int).toNat ≤ t101.length from by omega)
         replace q36 := eq_true q36
         refine start_ (n := 31) (S := fun w' => w'.cell? (ad109.add (x12_2).toNat) = some (.int .i64 (rd t101 x12_2))) (ds := []) (bl 31 0) (by kernel_rfl) rfl (by kernel_rfl) (hx109_0) (fun hHeld => ?_); refine with_tabW pTaken.tab14 pTaken.bits14 (fun HT_ HW_ => ?_)
         generalize w23.drew = w35 at HO_10 HB HR116 hx109_0 hHeld ⊢
         refine pV 0 72 (bl 31 1) HT_.out ?_
         refine pV 1 73 (bl 31 3) HT_.out ?_
         refine pV 2 74 (bl 31 7) HT_.out ?_
         refine pV 3 75 (bl 31 15) HT_.out ?_
         refine pV 4 76 (bl 31 31) HT_.out ?_
         refine pV 5 77 (bl 31 63) HT_.out ?_
         refine pV 6 78 (bl 31 127) HT_.out ?_
         refine tV 7 79 (bl 31 255) HT_.out HW_.out hHeld ?_ (hv := by intro w' s0; go_simp; with_reducible rfl)
         refine pV 8 80 (bl 31 511) HT_.out ?_
         refine pV 9 81 (bl 31 1023) HT_.out ?_
         refine pV 10 82 (bl 31 2047) HT_.out ?_
         refine pV 11 83 (bl 31 4095) HT_.out ?_
         refine pV 12 84 (bl 31 8191) HT_.out ?_
         refine pV 13 85 (bl 31 16383) HT_.out ?_
         refine pV 14 86 (bl 31 32767) HT_.out ?_
         refine pV 15 87 (bl 31 65535) HT_.out ?_
         refine pV 16 88 (bl 31 131071) HT_.out ?_
         refine pV 17 89 (bl 31 262143) HT_.out ?_
         refine pV 18 90 (bl 31 524287) HT_.out ?_
         refine pV 19 91 (bl 31 1048575) HT_.out ?_
         refine pV 20 92 (bl 31 2097151) HT_.out ?_
         refine pV 21 93 (bl 31 4194303) HT_.out ?_
         refine pV 22 94 (bl 31 8388607) HT_.out ?_
         refine pV 23 95 (bl 31 16777215) HT_.out ?_
         refine pV 25 97 (bl 31 50331647) HT_.out ?_
         refine pV 26 98 (bl 31 117440511) HT_.out ?_
         refine pV 27 99 (bl 31 251658239) HT_.out ?_
         refine one_ (i := 24) (N := some 96) (bl 31 268435455) rfl rfl (one_of HT_.out (by kernel_rfl)) (by decide) (fun K hK => ?_)
         refine goes_ Try.func27 (by kernel_rfl) rfl #[a3.v, .string a1, .int .i64 x11_2] (by rfl) rfl rfl (by (try simp only [qM0, qM1, qM2]); first | done | rfl | (simp only [qD0, qD1]; rfl)) ?_
         with_reducible refine (part_All.calls a3 a1 x11_2 t110 _ ?side1 A31.out).mono ?_
         (case side1 => exact Tr.Is.below HT3.out (by repeat (first | (with_reducible first | exact HB.out | apply bAl | apply pbD | apply bD1) | exact HB.out)))
         rintro e w37 ⟨v111, rfl, ho0, hb⟩
         have HS0_ := (hb.cell (World.block_lt_of_cell? _ _ (hHeld))).trans (hHeld)
         refine ⟨_, rfl, ?_⟩
         have n0_ := aK (Kd.R_elder' (by (with_reducible repeat (first | apply Kd.R_alloc | apply Kd.R_drewN | apply Kd.R_drew)); exact HO_10.out) (Kd.R_base ho0) hb)
         have n1_ := aK (Kd.R_lower (Kd.R_new' ho0 (Kd.R_lt (by (with_reducible repeat (first | apply Kd.R_alloc | apply Kd.R_drewN | apply Kd.R_drew)); exact HO_10.out))) (bSz (by repeat (first | (with_reducible first | exact HB.out | apply bAl | apply pbD | apply bD1) | exact HB.out))))
         have n2_ := aK (Kd.C_below (by repeat (first | (with_reducible exact HR116.out) | (with_reducible refine Kd.C_alloc ?_ _) | (with_reducible refine Kd.C_drewN ?_ _) | (with_reducible refine Kd.C_drew ?_) | exact HR116.out)) hb)
         have n3_ := aK (bSp (by repeat (first | (with_reducible first | exact HB.out | apply bAl | apply pbD | apply bD1) | exact HB.out)) hb)
         clear HO_10
         clear HR116
         clear HB
         have HO_10 := n0_
         have HO112 := n1_
         have HR116 := n2_
         have HB := n3_
         clear n0_ n1_ n2_ n3_
         (try clear hb)
         (try clear hb2)
         (try clear hk)
         (try clear hi)
         (try clear ho0)
         obtain ⟨Ao38, co38, eo38⟩ := Kd.R_slice HO112.out
         (first | subst eo38 | (injection eo38 with f1_ f2_ f3_; have f4_ := f1_.symm; have f5_ := f3_.symm; clear f1_ f2_ f3_; subst f4_; subst f5_))
         refine hK.out _ _ (HS0_) (fun hHeld => ?_)
         clear hK K
         refine norm_ (a' := ?_) ?_ ?_
         rotate_left
         ·
          show Act.put _ (some 96) _ = _
          simp only [Act.put, qSa, qS0, qS1, i64_w, i32_w]
          rfl
         refine one_ (i := 28) (N := some 100) (bl 31 536870911) rfl rfl (one_of HT_.out (by kernel_rfl)) (by decide) (fun K hK => ?_)
         refine goes_ Try.func30 (by kernel_rfl) rfl #[.slice Ao38 t110.length co38, .slice A36 y113.length c36] (by rfl) rfl rfl (by (try simp only [qM0, qM1, qM2]); first | done | rfl | (simp only [qD0, qD1]; rfl)) ?_
         with_reducible refine (w11_same.calls k2 _ _ t110 _ _ y113 t117 _ ?side1 ?side2 ?side3 ?side4 A34.out).mono ?_
         (case side1 => repeat (first | exact (Kd.R_reads' HO112.out).2.2 | (with_reducible refine Kd.C_alloc ?_ _) | (with_reducible refine Kd.C_drewN ?_ _) | (with_reducible refine Kd.C_drew ?_)))
         (case side2 => exact (Kd.R_reads' HO112.out).2.1)
         (case side3 => repeat (first | exact (by repeat (first | (with_reducible exact HR116.out) | (with_reducible refine Kd.C_alloc ?_ _) | (with_reducible refine Kd.C_drewN ?_ _) | (with_reducible refine Kd.C_drew ?_) | exact HR116.out)) | (with_reducible refine Kd.C_alloc ?_ _) | (with_reducible refine Kd.C_drewN ?_ _) | (with_reducible refine Kd.C_drew ?_)))
         (case side4 => exact HC116.out)
         rintro e w' ⟨rfl, ⟨nd, rfl⟩⟩
         refine ⟨_, rfl, ?_⟩
         refine hK.out _ _ (hHeld) (fun hHeld => ?_)
         clear hK K
         refine norm_ (a' := ?_) ?_ ?_
         rotate_left
         ·
          show Act.put _ (some 100) _ = _
          simp only [Act.put, qSa, qS0, qS1, i64_w, i32_w]
          rfl
         refine pV 29 101 (bl 31 1073741823) HT_.out ?_
         refine pV 30 102 (bl 31 2147483647) HT_.out ?_
         refine done_ (done_of HT_.out (by kernel_rfl)) ?_
         try go_wp2
         go_meet
         case rel => exact ⟨_, (!t117), (by first | rfl | (simp; done) | (simp [*]; done)), H', ⟨by have := HJ5.out; have := HK2.out; first | omega | exact Nat.le_refl _⟩, ⟨by (with_reducible repeat (first | apply Kd.R_alloc | apply Kd.R_drewN | apply Kd.R_drew)); exact Kd.R_mono HO_10.out (fun _ hk => trivial)⟩, ⟨by repeat (first | (with_reducible first | exact HB.out | apply bAl | apply pbD | apply bD1) | exact HB.out)⟩⟩
        rw [if_pos c29] at H
        have c29b0 : decide ((l0.length : Int) ≤ t107) = true := decide_eq_true c29
        clear c29
        have H' := aK H
        clear H
        try go_wp2
        have n0_ := aK (Kd.R_drew HO_10.out)
        have n1_ := aK (bD1 HB.out)
        clear HO_10
        clear HB
        have HO_10 := n0_
        have HB := n1_
        clear n0_ n1_
        have p109 : 0 ≤ (x12_2 : Int) := odT (by first | (with_reducible assumption) | assumption)
        have q109 : x12_2 < (t101.length : Int) := odT (by first | (with_reducible assumption) | assumption)
        obtain ⟨ad109, e109, hx109_0⟩ := Kd.at_int (Kd.R_reads' HO_10.out).2.2 x12_2 p109 q109
        cases e109
        replace p109 := eq_true p109
        replace q109 := eq_true q109
        refine start_ (n := 31) (S := fun w' => w'.cell? (ad109.add (x12_2).toNat) = some (.int .i64 (rd t101 x12_2))) (ds := []) (bl 31 0) (by kernel_rfl) rfl (by kernel_rfl) (hx109_0) (fun hHeld => ?_); refine with_tabW pTaken.tab14 pTaken.bits14 (fun HT_ HW_ => ?_)
        generalize w23.drew = w30 at HO_10 HB hx109_0 hHeld ⊢
        refine pV 0 72 (bl 31 1) HT_.out ?_
        refine pV 1 73 (bl 31 3) HT_.out ?_
        refine pV 2 74 (bl 31 7) HT_.out ?_
        refine pV 3 75 (bl 31 15) HT_.out ?_
        refine pV 4 76 (bl 31 31) HT_.out ?_
        refine pV 5 77 (bl 31 63) HT_.out ?_
        refine pV 6 78 (bl 31 127) HT_.out ?_
        refine tV 7 79 (bl 31 255) HT_.out HW_.out hHeld ?_ (hv := by intro w' s0; go_simp; with_reducible rfl)
        refine pV 8 80 (bl 31 511) HT_.out ?_
        refine pV 9 81 (bl 31 1023) HT_.out ?_
        refine pV 10 82 (bl 31 2047) HT_.out ?_
        refine pV 11 83 (bl 31 4095) HT_.out ?_
        refine pV 12 84 (bl 31 8191) HT_.out ?_
        refine pV 13 85 (bl 31 16383) HT_.out ?_
        refine pV 14 86 (bl 31 32767) HT_.out ?_
        refine pV 15 87 (bl 31 65535) HT_.out ?_
        refine pV 16 88 (bl 31 131071) HT_.out ?_
        refine pV 17 89 (bl 31 262143) HT_.out ?_
        refine pV 18 90 (bl 31 524287) HT_.out ?_
        refine pV 19 91 (bl 31 1048575) HT_.out ?_
        refine pV 20 92 (bl 31 2097151) HT_.out ?_
        refine pU 21 93 (bl 31 4194303) HT_.out ?_
        refine pU 22 94 (bl 31 8388607) HT_.out ?_
        refine pU 23 95 (bl 31 16777215) HT_.out ?_
        refine pU 24 96 (bl 31 33554431) HT_.out ?_
        refine pU 25 97 (bl 31 67108863) HT_.out ?_
        refine pU 26 98 (bl 31 134217727) HT_.out ?_
        refine pU 27 99 (bl 31 268435455) HT_.out ?_
        refine pU 28 100 (bl 31 536870911) HT_.out ?_
        refine pU 29 101 (bl 31 1073741823) HT_.out ?_
        refine pV 30 102 (bl 31 2147483647) HT_.out ?_
        refine done_ (done_of HT_.out (by kernel_rfl)) ?_
        try go_wp2
        go_meet
        case rel => exact ⟨_, (true), (by first | rfl | (simp; done) | (simp [*]; done)), H', ⟨by have := HJ5.out; have := HK2.out; first | omega | exact Nat.le_refl _⟩, ⟨by (with_reducible repeat (first | apply Kd.R_alloc | apply Kd.R_drewN | apply Kd.R_drew)); exact HO_10.out⟩, ⟨by repeat (first | (with_reducible first | exact HB.out | apply bAl | apply pbD | apply bD1) | exact HB.out)⟩⟩
       rw [if_pos c27] at H
       have c27b0 : decide (t107 < 0) = true := decide_eq_true c27
       clear c27
       have H' := aK H
       clear H
       try go_wp2
       have n0_ := aK (Kd.R_drew HO_10.out)
       have n1_ := aK (bD1 HB.out)
       clear HO_10
       clear HB
       have HO_10 := n0_
       have HB := n1_
       clear n0_ n1_
       have p109 : 0 ≤ (x12_2 : Int) := odT (by first | (with_reducible assumption) | assumption)
       have q109 : x12_2 < (t101.length : Int) := odT (by first | (with_reducible assumption) | assumption)
       obtain ⟨ad109, e109, hx109_0⟩ := Kd.at_int (Kd.R_reads' HO_10.out).2.2 x12_2 p109 q109
       cases e109
       replace p109 := eq_true p109
       replace q109 := eq_true q109
       refine start_ (n := 31) (S := fun w' => w'.cell? (ad109.add (x12_2).toNat) = some (.int .i64 (rd t101 x12_2))) (ds := []) (bl 31 0) (by kernel_rfl) rfl (by kernel_rfl) (hx109_0) (fun hHeld => ?_); refine with_tabW pTaken.tab14 pTaken.bits14 (fun HT_ HW_ => ?_)
       generalize w23.drew = w28 at HO_10 HB hx109_0 hHeld ⊢
       refine pV 0 72 (bl 31 1) HT_.out ?_
       refine pV 1 73 (bl 31 3) HT_.out ?_
       refine pV 2 74 (bl 31 7) HT_.out ?_
       refine pV 3 75 (bl 31 15) HT_.out ?_
       refine pV 4 76 (bl 31 31) HT_.out ?_
       refine pV 5 77 (bl 31 63) HT_.out ?_
       refine pV 6 78 (bl 31 127) HT_.out ?_
       refine tV 7 79 (bl 31 255) HT_.out HW_.out hHeld ?_ (hv := by intro w' s0; go_simp; with_reducible rfl)
       refine pV 8 80 (bl 31 511) HT_.out ?_
       refine pV 9 81 (bl 31 1023) HT_.out ?_
       refine pV 10 82 (bl 31 2047) HT_.out ?_
       refine pV 11 83 (bl 31 4095) HT_.out ?_
       refine pV 12 84 (bl 31 8191) HT_.out ?_
       refine pV 13 85 (bl 31 16383) HT_.out ?_
       refine pV 14 86 (bl 31 32767) HT_.out ?_
       refine pU 15 87 (bl 31 65535) HT_.out ?_
       refine pU 16 88 (bl 31 131071) HT_.out ?_
       refine pU 17 89 (bl 31 262143) HT_.out ?_
       refine pU 18 90 (bl 31 524287) HT_.out ?_
       refine pV 19 91 (bl 31 1048575) HT_.out ?_
       refine pV 20 92 (bl 31 2097151) HT_.out ?_
       refine pU 21 93 (bl 31 4194303) HT_.out ?_
       refine pU 22 94 (bl 31 8388607) HT_.out ?_
       refine pU 23 95 (bl 31 16777215) HT_.out ?_
       refine pU 24 96 (bl 31 33554431) HT_.out ?_
       refine pU 25 97 (bl 31 67108863) HT_.out ?_
       refine pU 26 98 (bl 31 134217727) HT_.out ?_
       refine pU 27 99 (bl 31 268435455) HT_.out ?_
       refine pU 28 100 (bl 31 536870911) HT_.out ?_
       refine pU 29 101 (bl 31 1073741823) HT_.out ?_
       refine pV 30 102 (bl 31 2147483647) HT_.out ?_
       refine done_ (done_of HT_.out (by kernel_rfl)) ?_
       try go_wp2
       go_meet
       case rel => exact ⟨_, (true), (by first | rfl | (simp; done) | (simp [*]; done)), H', ⟨by have := HJ5.out; have := HK2.out; first | omega | exact Nat.le_refl _⟩, ⟨by (with_reducible repeat (first | apply Kd.R_alloc | apply Kd.R_drewN | apply Kd.R_drew)); exact HO_10.out⟩, ⟨by repeat (first | (with_reducible first | exact HB.out | apply bAl | apply pbD | apply bD1) | exact HB.out)⟩⟩
      case rest =>
       clear HC21
       try clear p1
       try clear q1
       try clear hx1
       try clear c2
       try clear p2
       try clear c3
       try clear p10
       try clear q10
       try clear hx10
       try clear c24
       try clear c25
       try clear c26
       try clear c26b0
       try clear c26b1
       try clear c27
       try clear c30
       try clear c33
       try clear c36
       try clear hx109_0
       try clear p109
       try clear q109
       obtain ⟨kq, x102_20, rfl, HA, HJ20, HO_10, HB⟩ := hcut
       cases kq with
       | zero => exact absurd HA.out (by simp [pTaken.j2])
       | succ kj20 =>
        have H := HA.out
        clear HA
        simp only [pTaken.j2] at H
        by_cases c41 : x102_20 = true
        rotate_left
        ·
         replace c41 := Bool.eq_false_iff.mpr c41
         subst c41
         have H1 : (if 0 ≤ t107 then (if t107 < (l0.length : Int) then (if (((rd_T33 l0 t107).f1).size : Int) < 1 then (some false) else (if (wrap64 (x11_2 + (((rd_T33 l0 t107).f1).size : Int))) > (a1.size : Int) then (some false) else (if 0 ≤ x11_2 then (if x11_2 ≤ (wrap64 (x11_2 + (((rd_T33 l0 t107).f1).size : Int))) then (if (wrap64 (x11_2 + (((rd_T33 l0 t107).f1).size : Int))) ≤ (a1.size : Int) then (if (a1.extract (x11_2 : Int).toNat ((wrap64 (x11_2 + (((rd_T33 l0 t107).f1).size : Int))) : Int).toNat).toList = ((rd_T33 l0 t107).f1).toList then (pTaken.l0 kj20 l0 a1 a3 t101 (wrap64 (x11_2 + (((rd_T33 l0 t107).f1).size : Int))) (wrap64 (x12_2 + 1))) else (some false)) else (none)) else (none)) else (none)))) else (none)) else (none)) = some r := by rw [if_neg (show ¬ (false = true) by decide)] at H; exact H
         clear H
         have H := H1
         clear H1
         by_cases c42 : 0 ≤ t107
         rotate_left
         ·
          rw [if_neg c42] at H
          exact absurd H (by simp)
         rw [if_pos c42] at H
         have c42b0 : decide (0 ≤ t107) = true := decide_eq_true c42
         clear c42
         by_cases c43 : t107 < (l0.length : Int)
         rotate_left
         ·
          rw [if_neg c43] at H
          exact absurd H (by simp)
         rw [if_pos c43] at H
         have c43b0 : decide (t107 < (l0.length : Int)) = true := decide_eq_true c43
         clear c43
         by_cases c44 : (((rd_T33 l0 t107).f1).size : Int) < 1
         rotate_left
         ·
          rw [if_neg c44] at H
          have c44b0 : decide ((((rd_T33 l0 t107).f1).size : Int) < 1) = false := decide_eq_false c44
          have c44b1 : decide (((rd_T33 l0 t107).f1).size < 1) = false := decide_eq_false (by omega)
          clear c44
          by_cases c45 : (wrap64 (x11_2 + (((rd_T33 l0 t107).f1).size : Int))) > (a1.size : Int)
          rotate_left
          ·
           rw [if_neg c45] at H
           have c45b0 : decide ((a1.size : Int) < (wrap64 (x11_2 + (((rd_T33 l0 t107).f1).size : Int)))) = false := decide_eq_false c45
           clear c45
           by_cases c46 : 0 ≤ x11_2
           rotate_left
           ·
            rw [if_neg c46] at H
            exact absurd H (by simp)
           rw [if_pos c46] at H
           have c46b0 := eq_true c46
           have c46b1 : decide (0 ≤ x11_2) = true := decide_eq_true c46
           clear c46
           by_cases c47 : x11_2 ≤ (wrap64 (x11_2 + (((rd_T33 l0 t107).f1).size : Int)))
           rotate_left
           ·
            rw [if_neg c47] at H
            exact absurd H (by simp)
           rw [if_pos c47] at H
           have c47b0 := eq_true c47
           have c47b1 : decide (x11_2 ≤ (wrap64 (x11_2 + (((rd_T33 l0 t107).f1).size : Int)))) = true := decide_eq_true c47
           by_cases c48 : (wrap64 (x11_2 + (((rd_T33 l0 t107).f1).size : Int))) ≤ (a1.size : Int)
           rotate_left
           ·
            rw [if_neg c48] at H
            exact absurd H (by simp)
           rw [if_pos c48] at H
           have c48b0 := eq_true c48
           have c48b1 : decide ((wrap64 (x11_2 + (((rd_T33 l0 t107).f1).size : Int))) ≤ (a1.size : Int)) = true := decide_eq_true c48
           by_cases c49 : (a1.extract (x11_2 : Int).toNat ((wrap64 (x11_2 + (((rd_T33 l0 t107).f1).size : Int))) : Int).toNat).toList = ((rd_T33 l0 t107).f1).toList
           rotate_left
           ·
            rw [if_neg c49] at H
            have c49b0 : ((a1.extract (x11_2 : Int).toNat ((wrap64 (x11_2 + (((rd_T33 l0 t107).f1).size : Int))) : Int).toNat).toList == ((rd_T33 l0 t107).f1).toList) = false := beq_eq_false_iff_ne.mpr c49
            have c49b1 : ((a1.extract (x11_2 : Int).toNat ((wrap64 (x11_2 + (((rd_T33 l0 t107).f1).size : Int))) : Int).toNat).toList != ((rd_T33 l0 t107).f1).toList) = true := bne_iff_ne.mpr c49
            exact absurd ((oI H).trans hT.out) (by decide)
           rw [if_pos c49] at H
           have c49b0 : ((a1.extract (x11_2 : Int).toNat ((wrap64 (x11_2 + (((rd_T33 l0 t107).f1).size : Int))) : Int).toNat).toList == ((rd_T33 l0 t107).f1).toList) = true := beq_iff_eq.mpr c49
           have c49b1 : ((a1.extract (x11_2 : Int).toNat ((wrap64 (x11_2 + (((rd_T33 l0 t107).f1).size : Int))) : Int).toNat).toList != ((rd_T33 l0 t107).f1).toList) = false := bne_eq_false_iff_eq.mpr c49
           clear c49
           have H' := aK H
           clear H
           have p118 : 0 ≤ (t107 : Int) := odT (by first | (with_reducible assumption) | assumption)
           have q118 : t107 < (l0.length : Int) := odT (by first | (with_reducible assumption) | assumption)
           obtain ⟨ad118, e118, hx118_0, hx118_1, hx118_2, hx118_3, hx118_4⟩ := at_T33 HR0.out t107 p118 q118
           cases e118
           replace hx118_0 := (HB.out.cell (World.block_lt_of_cell? w _ hx118_0)).trans hx118_0
           replace hx118_1 := (HB.out.cell (World.block_lt_of_cell? w _ hx118_1)).trans hx118_1
           replace hx118_2 := (HB.out.cell (World.block_lt_of_cell? w _ hx118_2)).trans hx118_2
           replace hx118_3 := (HB.out.cell (World.block_lt_of_cell? w _ hx118_3)).trans hx118_3
           replace hx118_4 := (HB.out.cell (World.block_lt_of_cell? w _ hx118_4)).trans hx118_4
           replace p118 := eq_true p118
           replace q118 := eq_true q118
           try go_wp2
           have n0_ := aK (Kd.R_drew HO_10.out)
           have n1_ := aK (bD1 HB.out)
           clear HO_10
           clear HB
           have HO_10 := n0_
           have HB := n1_
           clear n0_ n1_
           have p119 : 0 ≤ (t107 : Int) := odT (by first | (with_reducible assumption) | assumption)
           have q119 : t107 < (l0.length : Int) := odT (by first | (with_reducible assumption) | assumption)
           obtain ⟨ad119, e119, hx119_0, hx119_1, hx119_2, hx119_3, hx119_4⟩ := at_T33 HR0.out t107 p119 q119
           have hw119_4 := hx119_4
           have hw119_3 := hx119_3
           have hw119_2 := hx119_2
           have hw119_1 := hx119_1
           have hw119_0 := hx119_0
           obtain rfl : ad118 = ad119 := (by injection e119)
           replace hx119_0 := (HB.out.cell (World.block_lt_of_cell? w _ hx119_0)).trans hx119_0
           replace hx119_1 := (HB.out.cell (World.block_lt_of_cell? w _ hx119_1)).trans hx119_1
           replace hx119_2 := (HB.out.cell (World.block_lt_of_cell? w _ hx119_2)).trans hx119_2
           replace hx119_3 := (HB.out.cell (World.block_lt_of_cell? w _ hx119_3)).trans hx119_3
           replace hx119_4 := (HB.out.cell (World.block_lt_of_cell? w _ hx119_4)).trans hx119_4
           replace p119 := eq_true p119
           replace q119 := eq_true q119
           refine start_ (n := 24) (S := fun w' => w'.cell? (ad118.add ((t107).toNat * 5)) = some (.int .i64 ((rd_T33 l0 t107).f0)) ∧ w'.cell? ⟨(ad118.add ((t107).toNat * 5)).block, (ad118.add ((t107).toNat * 5)).off + 1, none⟩ = some (.string ((rd_T33 l0 t107).f1)) ∧ w'.cell? ⟨(ad118.add ((t107).toNat * 5)).block, (ad118.add ((t107).toNat * 5)).off + 2, none⟩ = some (.string ((rd_T33 l0 t107).f2)) ∧ w'.cell? ⟨(ad118.add ((t107).toNat * 5)).block, (ad118.add ((t107).toNat * 5)).off + 3, none⟩ = some (.int .i64 ((rd_T33 l0 t107).f3)) ∧ w'.cell? ⟨(ad118.add ((t107).toNat * 5)).block, (ad118.add ((t107).toNat * 5)).off + 4, none⟩ = some (.int .i64 ((rd_T33 l0 t107).f4))) (ds := []) (bl 24 0) (by kernel_rfl) rfl (by kernel_rfl) ⟨((HB.out.cell (World.block_lt_of_cell? w _ hw119_0)).trans hw119_0), ((HB.out.cell (World.block_lt_of_cell? w _ hw119_1)).trans hw119_1), ((HB.out.cell (World.block_lt_of_cell? w _ hw119_2)).trans hw119_2), ((HB.out.cell (World.block_lt_of_cell? w _ hw119_3)).trans hw119_3), ((HB.out.cell (World.block_lt_of_cell? w _ hw119_4)).trans hw119_4)⟩ (fun hHeld => ?_); refine with_tabW pTaken.tab17 pTaken.bits17 (fun HT_ HW_ => ?_)
           generalize wc.drew = w50 at HO_10 HB hx119_0 hx119_1 hx119_2 hx119_3 hx119_4 hHeld ⊢
           refine pV 0 109 (bl 24 1) HT_.out ?_
           refine pV 1 110 (bl 24 3) HT_.out ?_
           refine pV 2 111 (bl 24 7) HT_.out ?_
           refine pV 3 112 (bl 24 15) HT_.out ?_
           refine pV 4 113 (bl 24 31) HT_.out ?_
           refine pV 5 114 (bl 24 63) HT_.out ?_
           refine pV 6 115 (bl 24 127) HT_.out ?_
           refine pV 7 116 (bl 24 255) HT_.out ?_
           refine pV 8 117 (bl 24 511) HT_.out ?_
           refine pV 9 118 (bl 24 1023) HT_.out ?_
           refine pV 10 119 (bl 24 2047) HT_.out ?_
           refine pV 11 120 (bl 24 4095) HT_.out ?_
           refine pV 12 121 (bl 24 8191) HT_.out ?_
           refine pV 13 122 (bl 24 16383) HT_.out ?_
           refine pV 14 123 (bl 24 32767) HT_.out ?_
           refine pV 15 124 (bl 24 65535) HT_.out ?_
           refine pV 16 125 (bl 24 131071) HT_.out ?_
           refine pV 17 126 (bl 24 262143) HT_.out ?_
           refine pV 18 127 (bl 24 524287) HT_.out ?_
           refine pV 19 128 (bl 24 1048575) HT_.out ?_
           refine pV 20 129 (bl 24 2097151) HT_.out ?_
           refine tV 21 130 (bl 24 4194303) HT_.out HW_.out hHeld ?_ (hv := by rintro w' ⟨s0, s1, s2, s3, s4⟩; go_simp; with_reducible rfl)
           refine pV 22 131 (bl 24 8388607) HT_.out ?_
           refine pV 23 132 (bl 24 16777215) HT_.out ?_
           refine done_ (done_of HT_.out (by kernel_rfl)) ?_
           try go_wp2
           go_roundg kj20
           case measure => have := HJ5.out; have := HK2.out; have := HJ20.out; omega
           case rel => exact ⟨(wrap64 (x11_2 + (((rd_T33 l0 t107).f1).size : Int))), (wrap64 (x12_2 + 1)), (by first | rfl | (simp; done) | (simp [*]; done)), (by first | rfl | (simp; done) | (simp [*]; done)), H', ⟨by have := HJ5.out; have := HK2.out; have := HJ20.out; omega⟩, ⟨by (with_reducible repeat (first | apply Kd.R_alloc | apply Kd.R_drewN | apply Kd.R_drew)); exact HO_10.out⟩, ⟨by repeat (first | (with_reducible first | exact HB.out | apply bAl | apply pbD | apply bD1) | exact HB.out)⟩⟩
          rw [if_pos c45] at H
          have c45b0 : decide ((a1.size : Int) < (wrap64 (x11_2 + (((rd_T33 l0 t107).f1).size : Int)))) = true := decide_eq_true c45
          clear c45
          exact absurd ((oI H).trans hT.out) (by decide)
         rw [if_pos c44] at H
         have c44b0 : decide ((((rd_T33 l0 t107).f1).size : Int) < 1) = true := decide_eq_true c44
         have c44b1 : decide (((rd_T33 l0 t107).f1).size < 1) = true := decide_eq_true (by omega)
         clear c44
         exact absurd ((oI H).trans hT.out) (by decide)
        subst c41
        have H1 : (some false) = some r := by rw [if_pos rfl] at H; exact H
        clear H
        have H := H1
        clear H1
        exact absurd ((oI H).trans hT.out) (by decide)
   subst c14
   have H1 : (if (t101.length : Int) = 0 then ((w11_awake.f).bind fun t105 => (some t105)) else (some false)) = some r := by rw [if_pos rfl] at H; exact H
   clear H
   have H := H1
   clear H1
   by_cases c15 : (t101.length : Int) = 0
   rotate_left
   ·
    rw [if_neg c15] at H
    have c15b0 : ((t101.length : Int) == 0) = false := beq_eq_false_iff_ne.mpr c15
    have c15b1 : ((t101.length : Int) != 0) = true := bne_iff_ne.mpr c15
    have c15b2 : ¬ (t101 = []) := fun h_ => c15 (by rw [h_]; rfl)
    exact absurd ((oI H).trans hT.out) (by decide)
   rw [if_pos c15] at H
   have c15b0 : ((t101.length : Int) == 0) = true := beq_iff_eq.mpr c15
   have c15b1 : ((t101.length : Int) != 0) = false := bne_eq_false_iff_eq.mpr c15
   clear c15
   replace H := oB H
   obtain ⟨t105, A160, H⟩ := H
   replace H : (some t105) = some r := H
   have A16 := aK A160
   clear A160
   obtain rfl := oI H
   obtain ⟨Ao17, co17, eo17⟩ := Kd.R_slice HO_10.out
   subst eo17
   go_wp2_with (first | (go_at_call 26; (with_reducible refine (w11_awake.calls  t105 _ A16.out).mono ?_); rintro e w18 ⟨rfl, hb⟩; have n0_ := aK (Kd.R_below (by (with_reducible repeat (first | apply Kd.R_alloc | apply Kd.R_drewN | apply Kd.R_drew)); exact HO_10.out) hb); have n1_ := aK (bSp (by repeat (first | (with_reducible first | exact HB.out | apply bAl | apply pbD | apply bD1) | exact HB.out)) hb); clear HO_10; clear HB; have HO_10 := n0_; have HB := n1_; clear n0_ n1_; (try clear hb); (try clear hb2); (try clear hk); (try clear hi)))
   go_ret
   exact ⟨by first | rfl | (simp [eWn, eWs] <;> rfl) | (simp [*, eWn, eWs] <;> rfl), bSp HB00.out (by repeat (first | (with_reducible first | exact HB.out | apply bAl | apply pbD | apply bD1) | exact HB.out))⟩
end Go.Proofs.Ytbpbniemjjhecaa.PChk
