import Derived.Test.YtbpbniemjjhecaaGreatZPChk0
import Derived.Test.YtbpbniemjjhecaaGreatZGChunkAw
import Derived.Test.YtbpbniemjjhecaaGreatZPChk23
import Derived.Test.YtbpbniemjjhecaaGreatProg
import Derived.Below
import Derived.Deep.Draws
import Derived.Deep.AppendLies
import Derived.Maps.AppendAt
import Derived.OwnWalk
import Derived.Laws.BytesArg
import Derived.Laws.MakeOwn
import Derived.Laws.OwnMore
import Derived.Deep.OwnRows
import Derived.Tactics
import Derived.Lib.ConvBytes
import Derived.Laws.Slices
import Derived.WalkKit
import Derived.KernelRfl
import Derived.RowKit3
import Derived.Deep.LoopGhost
import Derived.Deep.QuietTactic
import Derived.BigQuiet
import Derived.WideLaws
import Derived.Deep.DeepCutAuto
import Derived.Deep.CutBlock
import Derived.Deep.RegionHeld3
import Derived.Laws.Rows
import Derived.Lib.AppendStr
import Derived.ArgAppend
import Derived.Laws.IdiomCopy
import Derived.OrdersHeld
import Derived.Laws.BitsLemmas
import Derived.RowKit
import Derived.Test.YtbpbniemjjhecaaGreatZGCharsCase
import Derived.Test.YtbpbniemjjhecaaGreatZPChk24
import Derived.Test.YtbpbniemjjhecaaGreatZGChunk3
import Derived.Test.YtbpbniemjjhecaaGreatZWSized
namespace Go.Proofs.YtbpbniemjjhecaaGreat.PChk
open Go.RowKit Go.Proofs.YtbpbniemjjhecaaGreat.G Go.Proofs.YtbpbniemjjhecaaGreat.PChk Go.Proofs.YtbpbniemjjhecaaGreatW.PrintWords Go.Proofs.YtbpbniemjjhecaaGreatW.PrintLast Go.Proofs.YtbpbniemjjhecaaGreatW.PrintMore
attribute [local go_sem] max2_int min2_int max_two min_two max_three min_three max_four min_four
set_option linter.unusedVariables false
set_option linter.unusedSimpArgs false
set_option maxHeartbeats 8000000
set_option maxRecDepth 100000
mutual
def pOnce.l0 : Nat → List (S50) → List (S42) → List (S48) → Int → Int → Option (Bool)
 | 0, _, _, _, _, _ => none
 | k + 1, x0, x1, x8, x9, x10 => if x10 < (x8.length : Int) then (if 0 ≤ x10 then (if ((rd_T48 x8 x10).f0) < 0 then (pOnce.j1 k x0 x1 x8 x9 x10 true ((rd_T48 x8 x10).f0) ((rd_T48 x8 x10).f1) ((rd_T48 x8 x10).f2)) else (if ((rd_T48 x8 x10).f0) ≥ (x0.length : Int) then (pOnce.j1 k x0 x1 x8 x9 x10 true ((rd_T48 x8 x10).f0) ((rd_T48 x8 x10).f1) ((rd_T48 x8 x10).f2)) else (if ((rd_T48 x8 x10).f1) = x9 then (if ((rd_T48 x8 x10).f2) < 0 then (pOnce.j1 k x0 x1 x8 x9 x10 true ((rd_T48 x8 x10).f0) ((rd_T48 x8 x10).f1) ((rd_T48 x8 x10).f2)) else (pOnce.j1 k x0 x1 x8 x9 x10 (decide ((wrap64 (x9 + ((rd_T48 x8 x10).f2))) > (x1.length : Int))) ((rd_T48 x8 x10).f0) ((rd_T48 x8 x10).f1) ((rd_T48 x8 x10).f2))) else (pOnce.j1 k x0 x1 x8 x9 x10 true ((rd_T48 x8 x10).f0) ((rd_T48 x8 x10).f1) ((rd_T48 x8 x10).f2))))) else (none)) else (if x9 = (x1.length : Int) then ((w12_awake.f).bind fun t107 => (some t107)) else (some false))
def pOnce.j1 : Nat → List (S50) → List (S42) → List (S48) → Int → Int → Bool → Int → Int → Int → Option (Bool)
 | 0, _, _, _, _, _, _, _, _, _ => none
 | k + 1, x0, x1, x8, x9, x10, x90, x110000, x110001, x110002 => if x90 = true then (some false) else (if 0 ≤ x110000 then (if x110000 < (x0.length : Int) then (if x110002 = 0 then (if ((rd_T50 x0 x110000).f0) = 8 then (if ((rd_T50 x0 x110000).f1).toList = ([99, 97, 112] : List UInt8) then (pOnce.l0 k x0 x1 x8 x9 (wrap64 (x10 + 1))) else (if ((rd_T50 x0 x110000).f1).toList = ([99, 97, 112, 115] : List UInt8) then (pOnce.l0 k x0 x1 x8 x9 (wrap64 (x10 + 1))) else (if ((rd_T50 x0 x110000).f1).toList = ([110, 117, 109] : List UInt8) then (pOnce.l0 k x0 x1 x8 x9 (wrap64 (x10 + 1))) else (if ((rd_T50 x0 x110000).f1).toList = ([108, 101, 116] : List UInt8) then (pOnce.l0 k x0 x1 x8 x9 (wrap64 (x10 + 1))) else (some false))))) else (some false)) else (pOnce.l1 k x0 x1 x8 x9 x10 (⟨#[]⟩ : ByteArray) x9 x110000 x110001 x110002 ((rd_T50 x0 x110000).f0) ((rd_T50 x0 x110000).f1) ((rd_T50 x0 x110000).f2) ((rd_T50 x0 x110000).f3) ((rd_T50 x0 x110000).f4))) else (none)) else (none))
def pOnce.l1 : Nat → List (S50) → List (S42) → List (S48) → Int → Int → ByteArray → Int → Int → Int → Int → Int → ByteArray → ByteArray → Int → Int → Option (Bool)
 | 0, _, _, _, _, _, _, _, _, _, _, _, _, _, _, _ => none
 | k + 1, x0, x1, x8, x9, x10, x13, x14, x110000, x110001, x110002, x112000, x112001, x112002, x112003, x112004 => if x14 < (wrap64 (x9 + x110002)) then (if 0 ≤ x14 then (if x14 < (x1.length : Int) then (if ((((rd_T42 x1 x14).f0) == 1) != (x112000 != 8)) = true then (some false) else ((chars_Lower.f ((rd_T42 x1 x14).f1)).bind fun t114 => ((some (([t114] : List Int) : List Int)).bind fun y115 => (if x13.size + (strOfNums y115).size ≤ 9223372036854775807 then (pOnce.l1 k x0 x1 x8 x9 x10 (x13 ++ (strOfNums y115)) (wrap64 (x14 + 1)) x110000 x110001 x110002 x112000 x112001 x112002 x112003 x112004) else (none))))) else (none)) else (none)) else (if x112000 = 8 then (if x110002 = 1 then (if (x112001.size : Int) = 2 then (if 0 ≤ 1 then (if 1 ≤ (x112001.size : Int) then (if (x112001.extract 0 1).toList = x13.toList then (pOnce.l0 k x0 x1 x8 (wrap64 (x9 + x110002)) (wrap64 (x10 + 1))) else (some false)) else (none)) else (none)) else (some false)) else (some false)) else (if x13.toList = x112001.toList then (pOnce.l0 k x0 x1 x8 (wrap64 (x9 + x110002)) (wrap64 (x10 + 1))) else (some false)))
end
def pOnce.f (k : Nat) (l0 : List (S50)) (l1 : List (S42)) (a2 : Tr) : Option (Bool) := (chunk_Of.f a2 l1).bind fun bt101 => (if bt101.2 = 0 then (pOnce.l0 k l0 l1 bt101.1 0 0) else (if (bt101.1.length : Int) = 0 then ((chunk_Check.f k l1).bind fun t105 => (if t105 = 1 then ((w12_awake.f).bind fun t106 => (some t106)) else (some false))) else (some false)))
theorem pOnce.calls (k : Nat) (A0 : Option Addr) (c0 : Nat) (l0 : List Rl) (A1 : Option Addr) (c1 : Nat) (l1 : List S42) (r : Bool) (w00 : World) (hr0 : Kd.C k50 w00 A0 l0.length l0) (hc0 : l0.length ≤ c0) (hr1 : Kd.C k42 w00 A1 l1.length l1) (hc1 : l1.length ≤ c1) (hL : long12.f 500 l0 = some false) (hs1 : l1.length ≤ 40) (hn : trie_New.f l0 = some (some (some l0), 0, 0)) (hf : ∀ v, pOnce.f k l0 l1 ⟨v, some (some l0)⟩ = some r) (hT0 : r = true) :
  Calls Tryz.prog 5 #[.slice A0 l0.length c0, .slice A1 l1.length c1] w00 fun e w' => e = .returned (.bool r) ∧ Below w00.heap.size w00 w' := by
 have h1 := long12.calls 500 A0 c0 l0 false w00 hr0 hc0 hL
 have HR := Lib.hid hr0
 have HF := aK hf
 have HN := Lib.hid hn
 have HC := Lib.hid hc0
 have HRR1 := Lib.hid hr1
 have HCC1 := Lib.hid hc1
 have h61 : decide ((l1.length : Int) > 40) = false := decide_eq_false (by omega)
 have h71 : decide ((40 : Int) < (l1.length : Int)) = false := decide_eq_false (by omega)
 clear hf hn hr0 hL hc0 hr1 hc1 hs1
 go_enter Tryz.func5, Tryz.ntmps5
 try dsimp only [List.append]
 go_wp2_with fail
 go_at_call 7
 refine h1.mono ?_
 rintro e w1 ⟨rfl, b1⟩
 have HB1 := Lib.hid b1.below
 clear b1 h1
 go_wp2_with fail
 go_at_call 12
 refine (trie_New.calls A0 c0 l0 (some (some l0)) 0 0 w1 (Kd.C_below HR.out HB1.out) HC.out HN.out).mono ?_
 rintro e w ⟨v, rfl, ht, b2⟩
 have HT2 := Lib.hid ht
 have HB2 := Lib.hid (bSp HB1.out b2)
 clear b2 ht
 go_upto_region 6 with (fail)
 have HB00 := aK HB2.out
 obtain ⟨a2, ea⟩ : ∃ a_ : Tr, a_ = ⟨v, some (some l0)⟩ := ⟨_, rfl⟩
 have hT2 : Tr.Is w a2 := by rw [ea]; exact HT2.out
 have h := HF.out v
 rw [← ea] at h
 obtain rfl : v = a2.v := by rw [ea]
 have hr0 := Kd.C_below HR.out HB2.out
 have hc0 := HC.out
 have hr1 := Kd.C_below HRR1.out HB2.out
 have hc1 := HCC1.out
 clear HT2 HC HF HB2 HR HN ea HRR1 HCC1 h61 h71 HB1
 have hu48 := Tryz.underlying48
 have hu50 := Tryz.underlying50
 have HR0 := aK hr0
 have HC0 := aK hc0
 clear hr0 hc0
 have HR1 := aK hr1
 have HC1 := aK hc1
 clear hr1 hc1
 have HT2 := aK hT2
 clear hT2
 have HB := aK (Below.refl w.heap.size w)
 have H : ((chunk_Of.f a2 l1).bind fun bt101 => (if bt101.2 = 0 then (pOnce.l0 k l0 l1 bt101.1 0 0) else (if (bt101.1.length : Int) = 0 then ((chunk_Check.f k l1).bind fun t105 => (if t105 = 1 then ((w12_awake.f).bind fun t106 => (some t106)) else (some false))) else (some false)))) = some r := h
 clear h
 have hT := aK hT0
 clear hT0
 obtain ⟨⟨t101, t102⟩, A4, H⟩ := oC H
 try dsimp only at H
 by_cases c5 : t102 = 0
 rotate_left
 ·
  rw [if_neg c5] at H; obtain ⟨c5b0, c5b1⟩ := bN c5
  by_cases c86 : (t101.length : Int) = 0
  rotate_left
  ·
   rw [if_neg c86] at H; obtain ⟨c86b0, c86b1⟩ := bN c86
   have c86b2 : ¬ (t101 = []) := fun h_ => c86 (by rw [h_]; rfl)
   exact absurd ((oI H).trans hT.out) (by decide)
  rw [if_pos c86] at H; obtain ⟨c86b0, c86b1⟩ := bY c86; clear c86; obtain ⟨t105, A87, H⟩ := oC H
  try dsimp only at H
  by_cases c88 : t105 = 1
  rotate_left
  ·
   rw [if_neg c88] at H; obtain ⟨c88b0, c88b1⟩ := bN c88
   exact absurd ((oI H).trans hT.out) (by decide)
  rw [if_pos c88] at H; obtain ⟨c88b0, c88b1⟩ := bY c88; clear c88
  replace H := oB H
  obtain ⟨t106, A890, H⟩ := H
  replace H : (some t106) = some r := H
  have A89 := aK A890; clear A890; obtain rfl := oI H
  go_wp2_with (first | (go_at_call 13; (with_reducible refine (chunk_Of.calls a2 _ _ l1 t101 t102 _ ?side1 ?side2 ?side3 A4.out).mono ?_); (case side1 => exact Tr.Is.below HT2.out bX); (case side2 => repeat (first | exact HR1.out | (with_reducible refine Kd.C_alloc ?_ _) | (with_reducible refine Kd.C_drewN ?_ _) | (with_reducible refine Kd.C_drew ?_))); (case side3 => exact HC1.out); rintro e w90 ⟨v103, rfl, ho0, hb⟩; have HO104 := aK (Kd.R_lower ho0 (bSz bX)); replace HB := aK (bSp bX hb); clear hb; clear ho0; obtain ⟨Ao91, co91, eo91⟩ := Kd.R_slice HO104.out; subst eo91) | (go_at_call 9; (with_reducible refine (chunk_Check.calls k _ _ l1 t105 _ ?side1 ?side2 A87.out).mono ?_); (case side1 => exact cX HR1.out); (case side2 => exact HC1.out); rintro e w92 ⟨rfl, hb⟩; replace HO104 := aK (Kd.R_below (rX HO104.out) hb); replace HB := aK (bSp bX hb); clear hb) | (go_at_call 8; (with_reducible refine (w12_awake.calls  t106 _ A89.out).mono ?_); rintro e w93 ⟨rfl, hb⟩; replace HO104 := aK (Kd.R_below (rX HO104.out) hb); replace HB := aK (bSp bX hb); clear hb))
  repeat (go_quiet (first | (go_at_call 13; (with_reducible refine (chunk_Of.calls a2 _ _ l1 t101 t102 _ ?side1 ?side2 ?side3 A4.out).mono ?_); (case side1 => exact Tr.Is.below HT2.out bX); (case side2 => repeat (first | exact HR1.out | (with_reducible refine Kd.C_alloc ?_ _) | (with_reducible refine Kd.C_drewN ?_ _) | (with_reducible refine Kd.C_drew ?_))); (case side3 => exact HC1.out); rintro e w90 ⟨v103, rfl, ho0, hb⟩; have HO104 := aK (Kd.R_lower ho0 (bSz bX)); replace HB := aK (bSp bX hb); clear hb; clear ho0; obtain ⟨Ao91, co91, eo91⟩ := Kd.R_slice HO104.out; subst eo91) | (go_at_call 9; (with_reducible refine (chunk_Check.calls k _ _ l1 t105 _ ?side1 ?side2 A87.out).mono ?_); (case side1 => exact cX HR1.out); (case side2 => exact HC1.out); rintro e w92 ⟨rfl, hb⟩; replace HO104 := aK (Kd.R_below (rX HO104.out) hb); replace HB := aK (bSp bX hb); clear hb) | (go_at_call 8; (with_reducible refine (w12_awake.calls  t106 _ A89.out).mono ?_); rintro e w93 ⟨rfl, hb⟩; replace HO104 := aK (Kd.R_below (rX HO104.out) hb); replace HB := aK (bSp bX hb); clear hb)); try go_wp2_with (first | (go_at_call 13; (with_reducible refine (chunk_Of.calls a2 _ _ l1 t101 t102 _ ?side1 ?side2 ?side3 A4.out).mono ?_); (case side1 => exact Tr.Is.below HT2.out bX); (case side2 => repeat (first | exact HR1.out | (with_reducible refine Kd.C_alloc ?_ _) | (with_reducible refine Kd.C_drewN ?_ _) | (with_reducible refine Kd.C_drew ?_))); (case side3 => exact HC1.out); rintro e w90 ⟨v103, rfl, ho0, hb⟩; have HO104 := aK (Kd.R_lower ho0 (bSz bX)); replace HB := aK (bSp bX hb); clear hb; clear ho0; obtain ⟨Ao91, co91, eo91⟩ := Kd.R_slice HO104.out; subst eo91) | (go_at_call 9; (with_reducible refine (chunk_Check.calls k _ _ l1 t105 _ ?side1 ?side2 A87.out).mono ?_); (case side1 => exact cX HR1.out); (case side2 => exact HC1.out); rintro e w92 ⟨rfl, hb⟩; replace HO104 := aK (Kd.R_below (rX HO104.out) hb); replace HB := aK (bSp bX hb); clear hb) | (go_at_call 8; (with_reducible refine (w12_awake.calls  t106 _ A89.out).mono ?_); rintro e w93 ⟨rfl, hb⟩; replace HO104 := aK (Kd.R_below (rX HO104.out) hb); replace HB := aK (bSp bX hb); clear hb)))
  go_ret
  exact ⟨eX, bSp HB00.out bX⟩
 rw [if_pos c5] at H
 obtain ⟨c5b0, c5b1⟩ := bY c5
 clear c5
 have H' := aK H
 clear H
 go_wp2_with (first | (go_at_call 13; (with_reducible refine (chunk_Of.calls a2 _ _ l1 t101 t102 _ ?side1 ?side2 ?side3 A4.out).mono ?_); (case side1 => exact Tr.Is.below HT2.out bX); (case side2 => repeat (first | exact HR1.out | (with_reducible refine Kd.C_alloc ?_ _) | (with_reducible refine Kd.C_drewN ?_ _) | (with_reducible refine Kd.C_drew ?_))); (case side3 => exact HC1.out); rintro e w6 ⟨v103, rfl, ho0, hb⟩; have HO104 := aK (Kd.R_lower ho0 (bSz bX)); replace HB := aK (bSp bX hb); clear hb; clear ho0))
 repeat (go_quiet (first | (go_at_call 13; (with_reducible refine (chunk_Of.calls a2 _ _ l1 t101 t102 _ ?side1 ?side2 ?side3 A4.out).mono ?_); (case side1 => exact Tr.Is.below HT2.out bX); (case side2 => repeat (first | exact HR1.out | (with_reducible refine Kd.C_alloc ?_ _) | (with_reducible refine Kd.C_drewN ?_ _) | (with_reducible refine Kd.C_drew ?_))); (case side3 => exact HC1.out); rintro e w6 ⟨v103, rfl, ho0, hb⟩; have HO104 := aK (Kd.R_lower ho0 (bSz bX)); replace HB := aK (bSp bX hb); clear hb; clear ho0)); try go_wp2_with (first | (go_at_call 13; (with_reducible refine (chunk_Of.calls a2 _ _ l1 t101 t102 _ ?side1 ?side2 ?side3 A4.out).mono ?_); (case side1 => exact Tr.Is.below HT2.out bX); (case side2 => repeat (first | exact HR1.out | (with_reducible refine Kd.C_alloc ?_ _) | (with_reducible refine Kd.C_drewN ?_ _) | (with_reducible refine Kd.C_drew ?_))); (case side3 => exact HC1.out); rintro e w6 ⟨v103, rfl, ho0, hb⟩; have HO104 := aK (Kd.R_lower ho0 (bSz bX)); replace HB := aK (bSp bX hb); clear hb; clear ho0)))
 go_loopg [9, 10] k (fun kq v9 v10 w' => ∃ (x9_1 : Int) (x10_1 : Int), v9 = .int .i64 x9_1 ∧ v10 = .int .i64 x10_1 ∧ Aside0 (pOnce.l0 kq l0 l1 t101 x9_1 x10_1 = some r) ∧ Aside0 (kq ≤ k) ∧ Aside0 (Kd.R k48 48 w' w.heap.size (fun _ => True) v103 t101) ∧ Aside0 (Below w.heap.size w w'))
 case atStart => exact ⟨(0), (0), sX, sX, H', ⟨Nat.le_refl _⟩, ⟨rX HO104.out⟩, ⟨bX⟩⟩
 case round =>
  clear H'
  try clear c1
  try clear p2
  try clear c5
  try clear c5b0
  try clear c5b1
  obtain ⟨x9_1, x10_1, rfl, rfl, HA, HK1, HO_8, HB⟩ := hrel
  cases gk with
  | zero => exact absurd HA.out (by simp [pOnce.l0])
  | succ k1 =>
   have H := HA.out; clear HA
   simp only [pOnce.l0] at H
   by_cases c7 : x10_1 < (t101.length : Int)
   rotate_left
   ·
    rw [if_neg c7] at H; have c7b0 : decide (x10_1 < (t101.length : Int)) = false := decide_eq_false c7; clear c7
    by_cases c82 : x9_1 = (l1.length : Int)
    rotate_left
    ·
     rw [if_neg c82] at H; obtain ⟨c82b0, c82b1⟩ := bN c82
     exact absurd ((oI H).trans hT.out) (by decide)
    rw [if_pos c82] at H; obtain ⟨c82b0, c82b1⟩ := bY c82; clear c82
    replace H := oB H
    obtain ⟨t107, A830, H⟩ := H
    replace H : (some t107) = some r := H
    have A83 := aK A830; clear A830; obtain rfl := oI H
    obtain ⟨Ao84, co84, eo84⟩ := Kd.R_slice HO_8.out
    subst eo84
    go_wp2_with (first | (go_at_call 8; (with_reducible refine (w12_awake.calls  t107 _ A83.out).mono ?_); rintro e w85 ⟨rfl, hb⟩; replace HO_8 := aK (Kd.R_below (rX HO_8.out) hb); replace HB := aK (bSp bX hb); clear hb))
    repeat (go_quiet (first | (go_at_call 8; (with_reducible refine (w12_awake.calls  t107 _ A83.out).mono ?_); rintro e w85 ⟨rfl, hb⟩; replace HO_8 := aK (Kd.R_below (rX HO_8.out) hb); replace HB := aK (bSp bX hb); clear hb)); try go_wp2_with (first | (go_at_call 8; (with_reducible refine (w12_awake.calls  t107 _ A83.out).mono ?_); rintro e w85 ⟨rfl, hb⟩; replace HO_8 := aK (Kd.R_below (rX HO_8.out) hb); replace HB := aK (bSp bX hb); clear hb)))
    go_ret
    exact ⟨eX, bSp HB00.out bX⟩
   rw [if_pos c7] at H; have c7b0 : decide (x10_1 < (t101.length : Int)) = true := decide_eq_true c7; clear c7
   by_cases c8 : 0 ≤ x10_1
   rotate_left
   ·
    rw [if_neg c8] at H
    exact absurd H (by simp)
   rw [if_pos c8] at H; have c8b0 : decide (0 ≤ x10_1) = true := decide_eq_true c8; clear c8; have HC9 := aK H; clear H
   obtain ⟨Ao10, co10, eo10⟩ := Kd.R_slice HO_8.out
   subst eo10; have p108 : 0 ≤ (x10_1 : Int) := oA; have q108 : x10_1 < (t101.length : Int) := oA
   obtain ⟨ad108, e108, hx108_0, hx108_1, hx108_2⟩ := at_T48 (Kd.R_reads' HO_8.out).2.2 x10_1 p108 q108
   cases e108
   replace p108 := eq_true p108; replace q108 := eq_true q108
   go_upto_region 14 with (first | ((with_reducible refine gate_dst (N := 11) rfl ?_); (try (refine gate_guard (by rfl) ?_; dsimp only)); refine box_event ?hg (N := 11) ?hd (cs := #[.int .i64 0, .int .i64 0, .int .i64 0]) (t := 48) ?hr ?_; (case hd => rfl); (case hg => rfl); (case hr => first | (go_simp; done) | (go_simp; rfl)); intro gb109 hg w11 hbox hb; have n0_ := aK (Kd.R_below (Kd.R_elderB (rX HO_8.out) gb109 (Nat.le_of_eq hg.symm)) hb); have n1_ := aK (bSp bX hb); have n2_ := aK (hbox); have n3_ := aK ((by rw [hg]; exact (bSz bX) : w.heap.size ≤ gb109)); have n4_ := aK ((by rw [hg]; exact (bSz bX) : w.heap.size ≤ gb109)); clear HO_8; clear HB; have HO_8 := n0_; have HB := n1_; have BK109 := n2_; have GW109 := n3_; have GE109 := n4_; clear n0_ n1_ n2_ n3_ n4_; clear hb hbox hg; have hcz12_0 : w11.cell? ⟨gb109, 0, none⟩ = some (.int .i64 0) := (kCe BK109.out 0).trans rfl; have hcz12_1 : w11.cell? ⟨gb109, 1, none⟩ = some (.int .i64 0) := (kCe BK109.out 1).trans rfl; have hcz12_2 : w11.cell? ⟨gb109, 2, none⟩ = some (.int .i64 0) := (kCe BK109.out 2).trans rfl; have hfz12_0 := bFz BK109.out 0; have hfz12_1 := bFz BK109.out 1; have hfz12_2 := bFz BK109.out 2))
   repeat (go_quiet (first | ((with_reducible refine gate_dst (N := 11) rfl ?_); (try (refine gate_guard (by rfl) ?_; dsimp only)); refine box_event ?hg (N := 11) ?hd (cs := #[.int .i64 0, .int .i64 0, .int .i64 0]) (t := 48) ?hr ?_; (case hd => rfl); (case hg => rfl); (case hr => first | (go_simp; done) | (go_simp; rfl)); intro gb109 hg w11 hbox hb; have n0_ := aK (Kd.R_below (Kd.R_elderB (rX HO_8.out) gb109 (Nat.le_of_eq hg.symm)) hb); have n1_ := aK (bSp bX hb); have n2_ := aK (hbox); have n3_ := aK ((by rw [hg]; exact (bSz bX) : w.heap.size ≤ gb109)); have n4_ := aK ((by rw [hg]; exact (bSz bX) : w.heap.size ≤ gb109)); clear HO_8; clear HB; have HO_8 := n0_; have HB := n1_; have BK109 := n2_; have GW109 := n3_; have GE109 := n4_; clear n0_ n1_ n2_ n3_ n4_; clear hb hbox hg; have hcz12_0 : w11.cell? ⟨gb109, 0, none⟩ = some (.int .i64 0) := (kCe BK109.out 0).trans rfl; have hcz12_1 : w11.cell? ⟨gb109, 1, none⟩ = some (.int .i64 0) := (kCe BK109.out 1).trans rfl; have hcz12_2 : w11.cell? ⟨gb109, 2, none⟩ = some (.int .i64 0) := (kCe BK109.out 2).trans rfl; have hfz12_0 := bFz BK109.out 0; have hfz12_1 := bFz BK109.out 1; have hfz12_2 := bFz BK109.out 2)); go_upto_region 14 with (first | ((with_reducible refine gate_dst (N := 11) rfl ?_); (try (refine gate_guard (by rfl) ?_; dsimp only)); refine box_event ?hg (N := 11) ?hd (cs := #[.int .i64 0, .int .i64 0, .int .i64 0]) (t := 48) ?hr ?_; (case hd => rfl); (case hg => rfl); (case hr => first | (go_simp; done) | (go_simp; rfl)); intro gb109 hg w11 hbox hb; have n0_ := aK (Kd.R_below (Kd.R_elderB (rX HO_8.out) gb109 (Nat.le_of_eq hg.symm)) hb); have n1_ := aK (bSp bX hb); have n2_ := aK (hbox); have n3_ := aK ((by rw [hg]; exact (bSz bX) : w.heap.size ≤ gb109)); have n4_ := aK ((by rw [hg]; exact (bSz bX) : w.heap.size ≤ gb109)); clear HO_8; clear HB; have HO_8 := n0_; have HB := n1_; have BK109 := n2_; have GW109 := n3_; have GE109 := n4_; clear n0_ n1_ n2_ n3_ n4_; clear hb hbox hg; have hcz12_0 : w11.cell? ⟨gb109, 0, none⟩ = some (.int .i64 0) := (kCe BK109.out 0).trans rfl; have hcz12_1 : w11.cell? ⟨gb109, 1, none⟩ = some (.int .i64 0) := (kCe BK109.out 1).trans rfl; have hcz12_2 : w11.cell? ⟨gb109, 2, none⟩ = some (.int .i64 0) := (kCe BK109.out 2).trans rfl; have hfz12_0 := bFz BK109.out 0; have hfz12_1 := bFz BK109.out 1; have hfz12_2 := bFz BK109.out 2)))
   (try simp only [Act.put, qSa, qS0, qS1])
   go_cut [90] (fun v90 wc => ∃ (kq : Nat) (x90_8 : Bool), v90 = .bool x90_8 ∧ Aside0 (pOnce.j1 kq l0 l1 t101 x9_1 x10_1 x90_8 ((rd_T48 t101 x10_1).f0) ((rd_T48 t101 x10_1).f1) ((rd_T48 t101 x10_1).f2) = some r) ∧ Aside0 (kq ≤ k1) ∧ Aside0 (Kd.R k48 48 wc w.heap.size (fun k_ => k_ ≠ gb109) (.slice (some ad108) t101.length co10) t101) ∧ Aside0 (wc.heap[gb109]? = some (.cells #[.int .i64 ((rd_T48 t101 x10_1).f0), .int .i64 ((rd_T48 t101 x10_1).f1), .int .i64 ((rd_T48 t101 x10_1).f2)] 48 (0, 0))) ∧ Aside0 (Below w.heap.size w wc))
   case first =>
    have H := HC9.out; clear HC9
    by_cases c13 : ((rd_T48 t101 x10_1).f0) < 0
    rotate_left
    ·
     rw [if_neg c13] at H; have c13b0 : decide (((rd_T48 t101 x10_1).f0) < 0) = false := decide_eq_false c13; clear c13
     (first | rw [c13b0] | (simp only [i64_w, i32_w]; rw [c13b0]) | skip)
     by_cases c15 : ((rd_T48 t101 x10_1).f0) ≥ (l0.length : Int)
     rotate_left
     ·
      rw [if_neg c15] at H; have c15b0 : decide ((l0.length : Int) ≤ ((rd_T48 t101 x10_1).f0)) = false := decide_eq_false c15; clear c15
      by_cases c17 : ((rd_T48 t101 x10_1).f1) = x9_1
      rotate_left
      ·
       rw [if_neg c17] at H; obtain ⟨c17b0, c17b1⟩ := bN c17; have H' := aK H; clear H; obtain ⟨hcz21_0, hcz21_1, hcz21_2⟩ := kC3 BK109.out; obtain ⟨hfz21_0, hfz21_1, hfz21_2⟩ := bF3 BK109.out
       go_wp2
       repeat (go_quiet (fail); try go_wp2)
       go_meet
       case rel => exact ⟨_, (true), sX, H', ⟨by have := HK1.out; first | omega | exact Nat.le_refl _⟩, ⟨by (with_reducible repeat (first | apply Kd.R_alloc | apply Kd.R_drewN | apply Kd.R_drew)); exact Kd.R_mono (Kd.R_far (p := ⟨gb109, 2, none⟩) (Kd.R_far (p := ⟨gb109, 1, none⟩) (Kd.R_far (p := ⟨gb109, 0, none⟩) (Kd.R_mono HO_8.out (fun k_ hk => (⟨hk, hk.2⟩ : _ ∧ k_ ≠ gb109))) (fun _ hk => hk.2) (.int .i64 ((rd_T48 t101 x10_1).f0))) (fun _ hk => hk.2) (.int .i64 ((rd_T48 t101 x10_1).f1))) (fun _ hk => hk.2) (.int .i64 ((rd_T48 t101 x10_1).f2))) (fun _ hk => hk.1.2)⟩, ⟨by (with_reducible repeat (first | refine kDN ?_ _ | refine kDr ?_ | refine kAl ?_ _)); refine blk_put (cs := #[.int .i64 ((rd_T48 t101 x10_1).f0), .int .i64 ((rd_T48 t101 x10_1).f1), .int .i64 0]) ?_ 2 _ rfl; (with_reducible repeat (first | refine kDN ?_ _ | refine kDr ?_ | refine kAl ?_ _)); refine blk_put (cs := #[.int .i64 ((rd_T48 t101 x10_1).f0), .int .i64 0, .int .i64 0]) ?_ 1 _ rfl; (with_reducible repeat (first | refine kDN ?_ _ | refine kDr ?_ | refine kAl ?_ _)); refine blk_put (cs := #[.int .i64 0, .int .i64 0, .int .i64 0]) ?_ 0 _ rfl; (with_reducible repeat (first | refine kDN ?_ _ | refine kDr ?_ | refine kAl ?_ _)); exact BK109.out⟩, ⟨bX1 GE109.out⟩⟩
      rw [if_pos c17] at H; obtain ⟨c17b0, c17b1⟩ := bY c17; clear c17
      by_cases c18 : ((rd_T48 t101 x10_1).f2) < 0
      rotate_left
      ·
       rw [if_neg c18] at H; have c18b0 : decide (((rd_T48 t101 x10_1).f2) < 0) = false := decide_eq_false c18; clear c18; have H' := aK H; clear H; obtain ⟨hcz20_0, hcz20_1, hcz20_2⟩ := kC3 BK109.out; obtain ⟨hfz20_0, hfz20_1, hfz20_2⟩ := bF3 BK109.out
       go_wp2
       repeat (go_quiet (fail); try go_wp2)
       go_meet
       case rel => exact ⟨_, (decide ((wrap64 (x9_1 + ((rd_T48 t101 x10_1).f2))) > (l1.length : Int))), sX, H', ⟨by have := HK1.out; first | omega | exact Nat.le_refl _⟩, ⟨by (with_reducible repeat (first | apply Kd.R_alloc | apply Kd.R_drewN | apply Kd.R_drew)); exact Kd.R_mono (Kd.R_far (p := ⟨gb109, 2, none⟩) (Kd.R_far (p := ⟨gb109, 1, none⟩) (Kd.R_far (p := ⟨gb109, 0, none⟩) (Kd.R_mono HO_8.out (fun k_ hk => (⟨hk, hk.2⟩ : _ ∧ k_ ≠ gb109))) (fun _ hk => hk.2) (.int .i64 ((rd_T48 t101 x10_1).f0))) (fun _ hk => hk.2) (.int .i64 ((rd_T48 t101 x10_1).f1))) (fun _ hk => hk.2) (.int .i64 ((rd_T48 t101 x10_1).f2))) (fun _ hk => hk.1.2)⟩, ⟨by (with_reducible repeat (first | refine kDN ?_ _ | refine kDr ?_ | refine kAl ?_ _)); refine blk_put (cs := #[.int .i64 ((rd_T48 t101 x10_1).f0), .int .i64 ((rd_T48 t101 x10_1).f1), .int .i64 0]) ?_ 2 _ rfl; (with_reducible repeat (first | refine kDN ?_ _ | refine kDr ?_ | refine kAl ?_ _)); refine blk_put (cs := #[.int .i64 ((rd_T48 t101 x10_1).f0), .int .i64 0, .int .i64 0]) ?_ 1 _ rfl; (with_reducible repeat (first | refine kDN ?_ _ | refine kDr ?_ | refine kAl ?_ _)); refine blk_put (cs := #[.int .i64 0, .int .i64 0, .int .i64 0]) ?_ 0 _ rfl; (with_reducible repeat (first | refine kDN ?_ _ | refine kDr ?_ | refine kAl ?_ _)); exact BK109.out⟩, ⟨bX1 GE109.out⟩⟩
      rw [if_pos c18] at H; have c18b0 : decide (((rd_T48 t101 x10_1).f2) < 0) = true := decide_eq_true c18; clear c18; have H' := aK H; clear H; obtain ⟨hcz19_0, hcz19_1, hcz19_2⟩ := kC3 BK109.out; obtain ⟨hfz19_0, hfz19_1, hfz19_2⟩ := bF3 BK109.out
      go_wp2
      repeat (go_quiet (fail); try go_wp2)
      go_meet
      case rel => exact ⟨_, (true), sX, H', ⟨by have := HK1.out; first | omega | exact Nat.le_refl _⟩, ⟨by (with_reducible repeat (first | apply Kd.R_alloc | apply Kd.R_drewN | apply Kd.R_drew)); exact Kd.R_mono (Kd.R_far (p := ⟨gb109, 2, none⟩) (Kd.R_far (p := ⟨gb109, 1, none⟩) (Kd.R_far (p := ⟨gb109, 0, none⟩) (Kd.R_mono HO_8.out (fun k_ hk => (⟨hk, hk.2⟩ : _ ∧ k_ ≠ gb109))) (fun _ hk => hk.2) (.int .i64 ((rd_T48 t101 x10_1).f0))) (fun _ hk => hk.2) (.int .i64 ((rd_T48 t101 x10_1).f1))) (fun _ hk => hk.2) (.int .i64 ((rd_T48 t101 x10_1).f2))) (fun _ hk => hk.1.2)⟩, ⟨by (with_reducible repeat (first | refine kDN ?_ _ | refine kDr ?_ | refine kAl ?_ _)); refine blk_put (cs := #[.int .i64 ((rd_T48 t101 x10_1).f0), .int .i64 ((rd_T48 t101 x10_1).f1), .int .i64 0]) ?_ 2 _ rfl; (with_reducible repeat (first | refine kDN ?_ _ | refine kDr ?_ | refine kAl ?_ _)); refine blk_put (cs := #[.int .i64 ((rd_T48 t101 x10_1).f0), .int .i64 0, .int .i64 0]) ?_ 1 _ rfl; (with_reducible repeat (first | refine kDN ?_ _ | refine kDr ?_ | refine kAl ?_ _)); refine blk_put (cs := #[.int .i64 0, .int .i64 0, .int .i64 0]) ?_ 0 _ rfl; (with_reducible repeat (first | refine kDN ?_ _ | refine kDr ?_ | refine kAl ?_ _)); exact BK109.out⟩, ⟨bX1 GE109.out⟩⟩
     rw [if_pos c15] at H; have c15b0 : decide ((l0.length : Int) ≤ ((rd_T48 t101 x10_1).f0)) = true := decide_eq_true c15; clear c15; have H' := aK H; clear H; obtain ⟨hcz16_0, hcz16_1, hcz16_2⟩ := kC3 BK109.out; obtain ⟨hfz16_0, hfz16_1, hfz16_2⟩ := bF3 BK109.out
     go_wp2
     repeat (go_quiet (fail); try go_wp2)
     go_meet
     case rel => exact ⟨_, (true), sX, H', ⟨by have := HK1.out; first | omega | exact Nat.le_refl _⟩, ⟨by (with_reducible repeat (first | apply Kd.R_alloc | apply Kd.R_drewN | apply Kd.R_drew)); exact Kd.R_mono (Kd.R_far (p := ⟨gb109, 2, none⟩) (Kd.R_far (p := ⟨gb109, 1, none⟩) (Kd.R_far (p := ⟨gb109, 0, none⟩) (Kd.R_mono HO_8.out (fun k_ hk => (⟨hk, hk.2⟩ : _ ∧ k_ ≠ gb109))) (fun _ hk => hk.2) (.int .i64 ((rd_T48 t101 x10_1).f0))) (fun _ hk => hk.2) (.int .i64 ((rd_T48 t101 x10_1).f1))) (fun _ hk => hk.2) (.int .i64 ((rd_T48 t101 x10_1).f2))) (fun _ hk => hk.1.2)⟩, ⟨by (with_reducible repeat (first | refine kDN ?_ _ | refine kDr ?_ | refine kAl ?_ _)); refine blk_put (cs := #[.int .i64 ((rd_T48 t101 x10_1).f0), .int .i64 ((rd_T48 t101 x10_1).f1), .int .i64 0]) ?_ 2 _ rfl; (with_reducible repeat (first | refine kDN ?_ _ | refine kDr ?_ | refine kAl ?_ _)); refine blk_put (cs := #[.int .i64 ((rd_T48 t101 x10_1).f0), .int .i64 0, .int .i64 0]) ?_ 1 _ rfl; (with_reducible repeat (first | refine kDN ?_ _ | refine kDr ?_ | refine kAl ?_ _)); refine blk_put (cs := #[.int .i64 0, .int .i64 0, .int .i64 0]) ?_ 0 _ rfl; (with_reducible repeat (first | refine kDN ?_ _ | refine kDr ?_ | refine kAl ?_ _)); exact BK109.out⟩, ⟨bX1 GE109.out⟩⟩
    rw [if_pos c13] at H; have c13b0 : decide (((rd_T48 t101 x10_1).f0) < 0) = true := decide_eq_true c13; clear c13
    (first | rw [c13b0] | (simp only [i64_w, i32_w]; rw [c13b0]) | skip)
    have H' := aK H; clear H; obtain ⟨hcz14_0, hcz14_1, hcz14_2⟩ := kC3 BK109.out; obtain ⟨hfz14_0, hfz14_1, hfz14_2⟩ := bF3 BK109.out
    go_wp2
    repeat (go_quiet (fail); try go_wp2)
    go_meet
    case rel => exact ⟨_, (true), sX, H', ⟨by have := HK1.out; first | omega | exact Nat.le_refl _⟩, ⟨by (with_reducible repeat (first | apply Kd.R_alloc | apply Kd.R_drewN | apply Kd.R_drew)); exact Kd.R_mono (Kd.R_far (p := ⟨gb109, 2, none⟩) (Kd.R_far (p := ⟨gb109, 1, none⟩) (Kd.R_far (p := ⟨gb109, 0, none⟩) (Kd.R_mono HO_8.out (fun k_ hk => (⟨hk, hk.2⟩ : _ ∧ k_ ≠ gb109))) (fun _ hk => hk.2) (.int .i64 ((rd_T48 t101 x10_1).f0))) (fun _ hk => hk.2) (.int .i64 ((rd_T48 t101 x10_1).f1))) (fun _ hk => hk.2) (.int .i64 ((rd_T48 t101 x10_1).f2))) (fun _ hk => hk.1.2)⟩, ⟨by (with_reducible repeat (first | refine kDN ?_ _ | refine kDr ?_ | refine kAl ?_ _)); refine blk_put (cs := #[.int .i64 ((rd_T48 t101 x10_1).f0), .int .i64 ((rd_T48 t101 x10_1).f1), .int .i64 0]) ?_ 2 _ rfl; (with_reducible repeat (first | refine kDN ?_ _ | refine kDr ?_ | refine kAl ?_ _)); refine blk_put (cs := #[.int .i64 ((rd_T48 t101 x10_1).f0), .int .i64 0, .int .i64 0]) ?_ 1 _ rfl; (with_reducible repeat (first | refine kDN ?_ _ | refine kDr ?_ | refine kAl ?_ _)); refine blk_put (cs := #[.int .i64 0, .int .i64 0, .int .i64 0]) ?_ 0 _ rfl; (with_reducible repeat (first | refine kDN ?_ _ | refine kDr ?_ | refine kAl ?_ _)); exact BK109.out⟩, ⟨bX1 GE109.out⟩⟩
   case rest =>
    clear HC9
    try clear c1
    try clear p1
    try clear q1
    try clear hx1
    try clear p2
    try clear c5
    try clear c5b0
    try clear c5b1
    try clear p6
    try clear c7
    try clear c7b0
    try clear c8
    try clear c8b0
    try clear p10
    try clear q10
    try clear hx10
    try clear c13
    try clear c13b0
    try clear c15
    try clear c15b0
    try clear c17
    try clear c17b0
    try clear c17b1
    try clear c18
    try clear c18b0
    try clear hcz12_0
    try clear hcz12_1
    try clear hcz12_2
    try clear hcz14_0
    try clear hcz14_1
    try clear hcz14_2
    try clear hcz16_0
    try clear hcz16_1
    try clear hcz16_2
    try clear hcz19_0
    try clear hcz19_1
    try clear hcz19_2
    try clear hcz20_0
    try clear hcz20_1
    try clear hcz20_2
    try clear hcz21_0
    try clear hcz21_1
    try clear hcz21_2
    try clear hfz12_0
    try clear hfz12_1
    try clear hfz12_2
    try clear hfz14_0
    try clear hfz14_1
    try clear hfz14_2
    try clear hfz16_0
    try clear hfz16_1
    try clear hfz16_2
    try clear hfz19_0
    try clear hfz19_1
    try clear hfz19_2
    try clear hfz20_0
    try clear hfz20_1
    try clear hfz20_2
    try clear hfz21_0
    try clear hfz21_1
    try clear hfz21_2
    try clear hx108_0
    try clear hx108_1
    try clear hx108_2
    try clear p108
    try clear p2
    try clear q108
    obtain ⟨kq, x90_8, rfl, HA, HJ8, HO_8, BK109, HB⟩ := hcut
    cases kq with
    | zero => exact absurd HA.out (by simp [pOnce.j1])
    | succ kj8 =>
     have H := HA.out; clear HA
     simp only [pOnce.j1] at H
     by_cases c22 : x90_8 = true
     rotate_left
     ·
      replace c22 := Bool.eq_false_iff.mpr c22; subst c22
      have H1 : (if 0 ≤ ((rd_T48 t101 x10_1).f0) then (if ((rd_T48 t101 x10_1).f0) < (l0.length : Int) then (if ((rd_T48 t101 x10_1).f2) = 0 then (if ((rd_T50 l0 ((rd_T48 t101 x10_1).f0)).f0) = 8 then (if ((rd_T50 l0 ((rd_T48 t101 x10_1).f0)).f1).toList = ([99, 97, 112] : List UInt8) then (pOnce.l0 kj8 l0 l1 t101 x9_1 (wrap64 (x10_1 + 1))) else (if ((rd_T50 l0 ((rd_T48 t101 x10_1).f0)).f1).toList = ([99, 97, 112, 115] : List UInt8) then (pOnce.l0 kj8 l0 l1 t101 x9_1 (wrap64 (x10_1 + 1))) else (if ((rd_T50 l0 ((rd_T48 t101 x10_1).f0)).f1).toList = ([110, 117, 109] : List UInt8) then (pOnce.l0 kj8 l0 l1 t101 x9_1 (wrap64 (x10_1 + 1))) else (if ((rd_T50 l0 ((rd_T48 t101 x10_1).f0)).f1).toList = ([108, 101, 116] : List UInt8) then (pOnce.l0 kj8 l0 l1 t101 x9_1 (wrap64 (x10_1 + 1))) else (some false))))) else (some false)) else (pOnce.l1 kj8 l0 l1 t101 x9_1 x10_1 (⟨#[]⟩ : ByteArray) x9_1 ((rd_T48 t101 x10_1).f0) ((rd_T48 t101 x10_1).f1) ((rd_T48 t101 x10_1).f2) ((rd_T50 l0 ((rd_T48 t101 x10_1).f0)).f0) ((rd_T50 l0 ((rd_T48 t101 x10_1).f0)).f1) ((rd_T50 l0 ((rd_T48 t101 x10_1).f0)).f2) ((rd_T50 l0 ((rd_T48 t101 x10_1).f0)).f3) ((rd_T50 l0 ((rd_T48 t101 x10_1).f0)).f4))) else (none)) else (none)) = some r := by rw [if_neg (show ¬ (false = true) by decide)] at H; exact H
      clear H
      have H := H1
      clear H1
      by_cases c23 : 0 ≤ ((rd_T48 t101 x10_1).f0)
      rotate_left
      ·
       rw [if_neg c23] at H
       exact absurd H (by simp)
      rw [if_pos c23] at H; have c23b0 : decide (0 ≤ ((rd_T48 t101 x10_1).f0)) = true := decide_eq_true c23; clear c23
      by_cases c24 : ((rd_T48 t101 x10_1).f0) < (l0.length : Int)
      rotate_left
      ·
       rw [if_neg c24] at H
       exact absurd H (by simp)
      rw [if_pos c24] at H; have c24b0 : decide (((rd_T48 t101 x10_1).f0) < (l0.length : Int)) = true := decide_eq_true c24; clear c24
      by_cases c25 : ((rd_T48 t101 x10_1).f2) = 0
      rotate_left
      ·
       rw [if_neg c25] at H; obtain ⟨c25b0, c25b1⟩ := bN c25; have H' := aK H; clear H; obtain ⟨hcz51_0, hcz51_1, hcz51_2⟩ := kC3 BK109.out; obtain ⟨hfz51_0, hfz51_1, hfz51_2⟩ := bF3 BK109.out; have p110 : 0 ≤ (((rd_T48 t101 x10_1).f0) : Int) := oA; have q110 : ((rd_T48 t101 x10_1).f0) < (l0.length : Int) := oA
       obtain ⟨ad110, e110, hx110_0, hx110_1, hx110_2, hx110_3, hx110_4⟩ := at_T50 HR0.out ((rd_T48 t101 x10_1).f0) p110 q110
       cases e110
       replace hx110_0 := (HB.out.cell (World.block_lt_of_cell? w _ hx110_0)).trans hx110_0
       replace hx110_1 := (HB.out.cell (World.block_lt_of_cell? w _ hx110_1)).trans hx110_1
       replace hx110_2 := (HB.out.cell (World.block_lt_of_cell? w _ hx110_2)).trans hx110_2
       replace hx110_3 := (HB.out.cell (World.block_lt_of_cell? w _ hx110_3)).trans hx110_3
       replace hx110_4 := (HB.out.cell (World.block_lt_of_cell? w _ hx110_4)).trans hx110_4
       replace p110 := eq_true p110; replace q110 := eq_true q110
       go_wp2_with (first | ((with_reducible refine gate_dst (N := 12) rfl ?_); (try (refine gate_guard (by rfl) ?_; dsimp only)); refine box_event ?hg (N := 12) ?hd (cs := #[.int .i64 0, .string (⟨#[]⟩ : ByteArray), .string (⟨#[]⟩ : ByteArray), .int .i64 0, .int .i64 0]) (t := 50) ?hr ?_; (case hd => rfl); (case hg => rfl); (case hr => first | (go_simp; done) | (go_simp; rfl)); intro gb111 hg w52 hbox hb; have n0_ := aK (Kd.R_below (rX HO_8.out) hb); have n1_ := aK (kBe (g := gb109) (o := .cells #[.int .i64 ((rd_T48 t101 x10_1).f0), .int .i64 ((rd_T48 t101 x10_1).f1), .int .i64 ((rd_T48 t101 x10_1).f2)] 48 (0, 0)) (kX BK109.out) hb); have n2_ := aK (bSp (bX1 GE109.out) hb); have n3_ := aK (hbox); have n4_ := aK ((by rw [hg]; exact (bSz (bX1 GE109.out)) : w.heap.size ≤ gb111)); have n5_ := aK ((by rw [hg]; exact (bSz (bX1 GE109.out)) : w.heap.size ≤ gb111)); have n6_ := aK ((by rw [hg]; exact Nat.ne_of_lt (blk_lt (g := gb109) (o := .cells #[.int .i64 ((rd_T48 t101 x10_1).f0), .int .i64 ((rd_T48 t101 x10_1).f1), .int .i64 ((rd_T48 t101 x10_1).f2)] 48 (0, 0)) (kX BK109.out)) : gb109 ≠ gb111)); have n7_ := aK ((by rw [hg]; exact Nat.ne_of_gt (blk_lt (g := gb109) (o := .cells #[.int .i64 ((rd_T48 t101 x10_1).f0), .int .i64 ((rd_T48 t101 x10_1).f1), .int .i64 ((rd_T48 t101 x10_1).f2)] 48 (0, 0)) (kX BK109.out)) : gb111 ≠ gb109)); clear HO_8; clear BK109; clear HB; have HO_8 := n0_; have BK109 := n1_; have HB := n2_; have BK111 := n3_; have GW111 := n4_; have GE111 := n5_; have NB109_111 := n6_; have NB111_109 := n7_; clear n0_ n1_ n2_ n3_ n4_ n5_ n6_ n7_; clear hb hbox hg; have hnb53 := NB111_109.out; have hnc53 := NB109_111.out; have hcz54_0 : w52.cell? ⟨gb111, 0, none⟩ = some (.int .i64 0) := (kCe BK111.out 0).trans rfl; have hcz54_1 : w52.cell? ⟨gb111, 1, none⟩ = some (.string (⟨#[]⟩ : ByteArray)) := (kCe BK111.out 1).trans rfl; have hcz54_2 : w52.cell? ⟨gb111, 2, none⟩ = some (.string (⟨#[]⟩ : ByteArray)) := (kCe BK111.out 2).trans rfl; have hcz54_3 : w52.cell? ⟨gb111, 3, none⟩ = some (.int .i64 0) := (kCe BK111.out 3).trans rfl; have hcz54_4 : w52.cell? ⟨gb111, 4, none⟩ = some (.int .i64 0) := (kCe BK111.out 4).trans rfl; have hfz54_0 := bFz BK111.out 0; have hfz54_1 := bFz BK111.out 1; have hfz54_2 := bFz BK111.out 2; have hfz54_3 := bFz BK111.out 3; have hfz54_4 := bFz BK111.out 4; have hcz55_0 : w52.cell? ⟨gb109, 0, none⟩ = some (.int .i64 ((rd_T48 t101 x10_1).f0)) := (kCe BK109.out 0).trans rfl; have hcz55_1 : w52.cell? ⟨gb109, 1, none⟩ = some (.int .i64 ((rd_T48 t101 x10_1).f1)) := (kCe BK109.out 1).trans rfl; have hcz55_2 : w52.cell? ⟨gb109, 2, none⟩ = some (.int .i64 ((rd_T48 t101 x10_1).f2)) := (kCe BK109.out 2).trans rfl; have hfz55_0 := bFz BK109.out 0; have hfz55_1 := bFz BK109.out 1; have hfz55_2 := bFz BK109.out 2))
       repeat (go_quiet (first | ((with_reducible refine gate_dst (N := 12) rfl ?_); (try (refine gate_guard (by rfl) ?_; dsimp only)); refine box_event ?hg (N := 12) ?hd (cs := #[.int .i64 0, .string (⟨#[]⟩ : ByteArray), .string (⟨#[]⟩ : ByteArray), .int .i64 0, .int .i64 0]) (t := 50) ?hr ?_; (case hd => rfl); (case hg => rfl); (case hr => first | (go_simp; done) | (go_simp; rfl)); intro gb111 hg w52 hbox hb; have n0_ := aK (Kd.R_below (rX HO_8.out) hb); have n1_ := aK (kBe (g := gb109) (o := .cells #[.int .i64 ((rd_T48 t101 x10_1).f0), .int .i64 ((rd_T48 t101 x10_1).f1), .int .i64 ((rd_T48 t101 x10_1).f2)] 48 (0, 0)) (kX BK109.out) hb); have n2_ := aK (bSp (bX1 GE109.out) hb); have n3_ := aK (hbox); have n4_ := aK ((by rw [hg]; exact (bSz (bX1 GE109.out)) : w.heap.size ≤ gb111)); have n5_ := aK ((by rw [hg]; exact (bSz (bX1 GE109.out)) : w.heap.size ≤ gb111)); have n6_ := aK ((by rw [hg]; exact Nat.ne_of_lt (blk_lt (g := gb109) (o := .cells #[.int .i64 ((rd_T48 t101 x10_1).f0), .int .i64 ((rd_T48 t101 x10_1).f1), .int .i64 ((rd_T48 t101 x10_1).f2)] 48 (0, 0)) (kX BK109.out)) : gb109 ≠ gb111)); have n7_ := aK ((by rw [hg]; exact Nat.ne_of_gt (blk_lt (g := gb109) (o := .cells #[.int .i64 ((rd_T48 t101 x10_1).f0), .int .i64 ((rd_T48 t101 x10_1).f1), .int .i64 ((rd_T48 t101 x10_1).f2)] 48 (0, 0)) (kX BK109.out)) : gb111 ≠ gb109)); clear HO_8; clear BK109; clear HB; have HO_8 := n0_; have BK109 := n1_; have HB := n2_; have BK111 := n3_; have GW111 := n4_; have GE111 := n5_; have NB109_111 := n6_; have NB111_109 := n7_; clear n0_ n1_ n2_ n3_ n4_ n5_ n6_ n7_; clear hb hbox hg; have hnb53 := NB111_109.out; have hnc53 := NB109_111.out; have hcz54_0 : w52.cell? ⟨gb111, 0, none⟩ = some (.int .i64 0) := (kCe BK111.out 0).trans rfl; have hcz54_1 : w52.cell? ⟨gb111, 1, none⟩ = some (.string (⟨#[]⟩ : ByteArray)) := (kCe BK111.out 1).trans rfl; have hcz54_2 : w52.cell? ⟨gb111, 2, none⟩ = some (.string (⟨#[]⟩ : ByteArray)) := (kCe BK111.out 2).trans rfl; have hcz54_3 : w52.cell? ⟨gb111, 3, none⟩ = some (.int .i64 0) := (kCe BK111.out 3).trans rfl; have hcz54_4 : w52.cell? ⟨gb111, 4, none⟩ = some (.int .i64 0) := (kCe BK111.out 4).trans rfl; have hfz54_0 := bFz BK111.out 0; have hfz54_1 := bFz BK111.out 1; have hfz54_2 := bFz BK111.out 2; have hfz54_3 := bFz BK111.out 3; have hfz54_4 := bFz BK111.out 4; have hcz55_0 : w52.cell? ⟨gb109, 0, none⟩ = some (.int .i64 ((rd_T48 t101 x10_1).f0)) := (kCe BK109.out 0).trans rfl; have hcz55_1 : w52.cell? ⟨gb109, 1, none⟩ = some (.int .i64 ((rd_T48 t101 x10_1).f1)) := (kCe BK109.out 1).trans rfl; have hcz55_2 : w52.cell? ⟨gb109, 2, none⟩ = some (.int .i64 ((rd_T48 t101 x10_1).f2)) := (kCe BK109.out 2).trans rfl; have hfz55_0 := bFz BK109.out 0; have hfz55_1 := bFz BK109.out 1; have hfz55_2 := bFz BK109.out 2)); try go_wp2_with (first | ((with_reducible refine gate_dst (N := 12) rfl ?_); (try (refine gate_guard (by rfl) ?_; dsimp only)); refine box_event ?hg (N := 12) ?hd (cs := #[.int .i64 0, .string (⟨#[]⟩ : ByteArray), .string (⟨#[]⟩ : ByteArray), .int .i64 0, .int .i64 0]) (t := 50) ?hr ?_; (case hd => rfl); (case hg => rfl); (case hr => first | (go_simp; done) | (go_simp; rfl)); intro gb111 hg w52 hbox hb; have n0_ := aK (Kd.R_below (rX HO_8.out) hb); have n1_ := aK (kBe (g := gb109) (o := .cells #[.int .i64 ((rd_T48 t101 x10_1).f0), .int .i64 ((rd_T48 t101 x10_1).f1), .int .i64 ((rd_T48 t101 x10_1).f2)] 48 (0, 0)) (kX BK109.out) hb); have n2_ := aK (bSp (bX1 GE109.out) hb); have n3_ := aK (hbox); have n4_ := aK ((by rw [hg]; exact (bSz (bX1 GE109.out)) : w.heap.size ≤ gb111)); have n5_ := aK ((by rw [hg]; exact (bSz (bX1 GE109.out)) : w.heap.size ≤ gb111)); have n6_ := aK ((by rw [hg]; exact Nat.ne_of_lt (blk_lt (g := gb109) (o := .cells #[.int .i64 ((rd_T48 t101 x10_1).f0), .int .i64 ((rd_T48 t101 x10_1).f1), .int .i64 ((rd_T48 t101 x10_1).f2)] 48 (0, 0)) (kX BK109.out)) : gb109 ≠ gb111)); have n7_ := aK ((by rw [hg]; exact Nat.ne_of_gt (blk_lt (g := gb109) (o := .cells #[.int .i64 ((rd_T48 t101 x10_1).f0), .int .i64 ((rd_T48 t101 x10_1).f1), .int .i64 ((rd_T48 t101 x10_1).f2)] 48 (0, 0)) (kX BK109.out)) : gb111 ≠ gb109)); clear HO_8; clear BK109; clear HB; have HO_8 := n0_; have BK109 := n1_; have HB := n2_; have BK111 := n3_; have GW111 := n4_; have GE111 := n5_; have NB109_111 := n6_; have NB111_109 := n7_; clear n0_ n1_ n2_ n3_ n4_ n5_ n6_ n7_; clear hb hbox hg; have hnb53 := NB111_109.out; have hnc53 := NB109_111.out; have hcz54_0 : w52.cell? ⟨gb111, 0, none⟩ = some (.int .i64 0) := (kCe BK111.out 0).trans rfl; have hcz54_1 : w52.cell? ⟨gb111, 1, none⟩ = some (.string (⟨#[]⟩ : ByteArray)) := (kCe BK111.out 1).trans rfl; have hcz54_2 : w52.cell? ⟨gb111, 2, none⟩ = some (.string (⟨#[]⟩ : ByteArray)) := (kCe BK111.out 2).trans rfl; have hcz54_3 : w52.cell? ⟨gb111, 3, none⟩ = some (.int .i64 0) := (kCe BK111.out 3).trans rfl; have hcz54_4 : w52.cell? ⟨gb111, 4, none⟩ = some (.int .i64 0) := (kCe BK111.out 4).trans rfl; have hfz54_0 := bFz BK111.out 0; have hfz54_1 := bFz BK111.out 1; have hfz54_2 := bFz BK111.out 2; have hfz54_3 := bFz BK111.out 3; have hfz54_4 := bFz BK111.out 4; have hcz55_0 : w52.cell? ⟨gb109, 0, none⟩ = some (.int .i64 ((rd_T48 t101 x10_1).f0)) := (kCe BK109.out 0).trans rfl; have hcz55_1 : w52.cell? ⟨gb109, 1, none⟩ = some (.int .i64 ((rd_T48 t101 x10_1).f1)) := (kCe BK109.out 1).trans rfl; have hcz55_2 : w52.cell? ⟨gb109, 2, none⟩ = some (.int .i64 ((rd_T48 t101 x10_1).f2)) := (kCe BK109.out 2).trans rfl; have hfz55_0 := bFz BK109.out 0; have hfz55_1 := bFz BK109.out 1; have hfz55_2 := bFz BK109.out 2)))
       go_loopg [13, 14] kj8 (fun kq v13 v14 w' => ∃ (x13_3 : ByteArray) (x14_3 : Int), v13 = .string x13_3 ∧ v14 = .int .i64 x14_3 ∧ Aside0 (pOnce.l1 kq l0 l1 t101 x9_1 x10_1 x13_3 x14_3 ((rd_T48 t101 x10_1).f0) ((rd_T48 t101 x10_1).f1) ((rd_T48 t101 x10_1).f2) ((rd_T50 l0 ((rd_T48 t101 x10_1).f0)).f0) ((rd_T50 l0 ((rd_T48 t101 x10_1).f0)).f1) ((rd_T50 l0 ((rd_T48 t101 x10_1).f0)).f2) ((rd_T50 l0 ((rd_T48 t101 x10_1).f0)).f3) ((rd_T50 l0 ((rd_T48 t101 x10_1).f0)).f4) = some r) ∧ Aside0 (kq ≤ kj8) ∧ Aside0 (Kd.R k48 48 w' w.heap.size (fun k_ => k_ ≠ gb109) (.slice (some ad108) t101.length co10) t101) ∧ Aside0 (w'.heap[gb109]? = some (.cells #[.int .i64 ((rd_T48 t101 x10_1).f0), .int .i64 ((rd_T48 t101 x10_1).f1), .int .i64 ((rd_T48 t101 x10_1).f2)] 48 (0, 0))) ∧ Aside0 (w'.heap[gb111]? = some (.cells #[.int .i64 ((rd_T50 l0 ((rd_T48 t101 x10_1).f0)).f0), .string ((rd_T50 l0 ((rd_T48 t101 x10_1).f0)).f1), .string ((rd_T50 l0 ((rd_T48 t101 x10_1).f0)).f2), .int .i64 ((rd_T50 l0 ((rd_T48 t101 x10_1).f0)).f3), .int .i64 ((rd_T50 l0 ((rd_T48 t101 x10_1).f0)).f4)] 50 (0, 0))) ∧ Aside0 (Below w.heap.size w w'))
       case atStart => exact ⟨((⟨#[]⟩ : ByteArray)), (x9_1), sX, sX, H', ⟨Nat.le_refl _⟩, ⟨by (with_reducible repeat (first | apply Kd.R_alloc | apply Kd.R_drewN | apply Kd.R_drew)); exact Kd.R_mono (Kd.R_far (p := ⟨gb111, 4, none⟩) (Kd.R_far (p := ⟨gb111, 3, none⟩) (Kd.R_far (p := ⟨gb111, 2, none⟩) (Kd.R_far (p := ⟨gb111, 1, none⟩) (Kd.R_far (p := ⟨gb111, 0, none⟩) (Kd.R_types HO_8.out BK111.out (by decide)) (fun _ hk => hk.2) (.int .i64 ((rd_T50 l0 ((rd_T48 t101 x10_1).f0)).f0))) (fun _ hk => hk.2) (.string ((rd_T50 l0 ((rd_T48 t101 x10_1).f0)).f1))) (fun _ hk => hk.2) (.string ((rd_T50 l0 ((rd_T48 t101 x10_1).f0)).f2))) (fun _ hk => hk.2) (.int .i64 ((rd_T50 l0 ((rd_T48 t101 x10_1).f0)).f3))) (fun _ hk => hk.2) (.int .i64 ((rd_T50 l0 ((rd_T48 t101 x10_1).f0)).f4))) (fun _ hk => hk.1)⟩, ⟨by (with_reducible repeat (first | refine kDN ?_ _ | refine kDr ?_ | refine kAl ?_ _)); refine blk_far ?_ NB109_111.out _; (with_reducible repeat (first | refine kDN ?_ _ | refine kDr ?_ | refine kAl ?_ _)); refine blk_far ?_ NB109_111.out _; (with_reducible repeat (first | refine kDN ?_ _ | refine kDr ?_ | refine kAl ?_ _)); refine blk_far ?_ NB109_111.out _; (with_reducible repeat (first | refine kDN ?_ _ | refine kDr ?_ | refine kAl ?_ _)); refine blk_far ?_ NB109_111.out _; (with_reducible repeat (first | refine kDN ?_ _ | refine kDr ?_ | refine kAl ?_ _)); refine blk_far ?_ NB109_111.out _; (with_reducible repeat (first | refine kDN ?_ _ | refine kDr ?_ | refine kAl ?_ _)); exact BK109.out⟩, ⟨by (with_reducible repeat (first | refine kDN ?_ _ | refine kDr ?_ | refine kAl ?_ _)); refine blk_put (cs := #[.int .i64 ((rd_T50 l0 ((rd_T48 t101 x10_1).f0)).f0), .string ((rd_T50 l0 ((rd_T48 t101 x10_1).f0)).f1), .string ((rd_T50 l0 ((rd_T48 t101 x10_1).f0)).f2), .int .i64 ((rd_T50 l0 ((rd_T48 t101 x10_1).f0)).f3), .int .i64 0]) ?_ 4 _ rfl; (with_reducible repeat (first | refine kDN ?_ _ | refine kDr ?_ | refine kAl ?_ _)); refine blk_put (cs := #[.int .i64 ((rd_T50 l0 ((rd_T48 t101 x10_1).f0)).f0), .string ((rd_T50 l0 ((rd_T48 t101 x10_1).f0)).f1), .string ((rd_T50 l0 ((rd_T48 t101 x10_1).f0)).f2), .int .i64 0, .int .i64 0]) ?_ 3 _ rfl; (with_reducible repeat (first | refine kDN ?_ _ | refine kDr ?_ | refine kAl ?_ _)); refine blk_put (cs := #[.int .i64 ((rd_T50 l0 ((rd_T48 t101 x10_1).f0)).f0), .string ((rd_T50 l0 ((rd_T48 t101 x10_1).f0)).f1), .string (⟨#[]⟩ : ByteArray), .int .i64 0, .int .i64 0]) ?_ 2 _ rfl; (with_reducible repeat (first | refine kDN ?_ _ | refine kDr ?_ | refine kAl ?_ _)); refine blk_put (cs := #[.int .i64 ((rd_T50 l0 ((rd_T48 t101 x10_1).f0)).f0), .string (⟨#[]⟩ : ByteArray), .string (⟨#[]⟩ : ByteArray), .int .i64 0, .int .i64 0]) ?_ 1 _ rfl; (with_reducible repeat (first | refine kDN ?_ _ | refine kDr ?_ | refine kAl ?_ _)); refine blk_put (cs := #[.int .i64 0, .string (⟨#[]⟩ : ByteArray), .string (⟨#[]⟩ : ByteArray), .int .i64 0, .int .i64 0]) ?_ 0 _ rfl; (with_reducible repeat (first | refine kDN ?_ _ | refine kDr ?_ | refine kAl ?_ _)); exact BK111.out⟩, ⟨bX2 GE109.out GE111.out⟩⟩
       case round =>
        clear H'
        try clear c1
        try clear p1
        try clear q1
        try clear hx1
        try clear c2
        try clear p2
        try clear c3
        try clear c4
        try clear c5
        try clear c5b0
        try clear c5b1
        try clear p6
        try clear c7
        try clear c7b0
        try clear c8
        try clear c8b0
        try clear p10
        try clear q10
        try clear hx10
        try clear p11
        try clear q11
        try clear hx11
        try clear c13
        try clear c13b0
        try clear c15
        try clear c15b0
        try clear c17
        try clear c17b0
        try clear c17b1
        try clear c18
        try clear c18b0
        try clear c22
        try clear c23
        try clear c23b0
        try clear c24
        try clear c24b0
        try clear c25
        try clear c25b0
        try clear c25b1
        try clear c26
        try clear c26b0
        try clear c26b1
        try clear c27
        try clear c27b0
        try clear c27b1
        try clear c30
        try clear c33
        try clear c33b0
        try clear c33b1
        try clear c36
        try clear c39
        try clear c39b0
        try clear c39b1
        try clear c42
        try clear c45
        try clear c45b0
        try clear c45b1
        try clear c48
        try clear c53
        try clear hcz12_0
        try clear hcz12_1
        try clear hcz12_2
        try clear hcz14_0
        try clear hcz14_1
        try clear hcz14_2
        try clear hcz16_0
        try clear hcz16_1
        try clear hcz16_2
        try clear hcz19_0
        try clear hcz19_1
        try clear hcz19_2
        try clear hcz20_0
        try clear hcz20_1
        try clear hcz20_2
        try clear hcz21_0
        try clear hcz21_1
        try clear hcz21_2
        try clear hcz28_0
        try clear hcz28_1
        try clear hcz28_2
        try clear hcz31_0
        try clear hcz31_1
        try clear hcz31_2
        try clear hcz31_3
        try clear hcz31_4
        try clear hcz32_0
        try clear hcz32_1
        try clear hcz32_2
        try clear hcz34_0
        try clear hcz34_1
        try clear hcz34_2
        try clear hcz37_0
        try clear hcz37_1
        try clear hcz37_2
        try clear hcz37_3
        try clear hcz37_4
        try clear hcz38_0
        try clear hcz38_1
        try clear hcz38_2
        try clear hcz40_0
        try clear hcz40_1
        try clear hcz40_2
        try clear hcz43_0
        try clear hcz43_1
        try clear hcz43_2
        try clear hcz43_3
        try clear hcz43_4
        try clear hcz44_0
        try clear hcz44_1
        try clear hcz44_2
        try clear hcz46_0
        try clear hcz46_1
        try clear hcz46_2
        try clear hcz49_0
        try clear hcz49_1
        try clear hcz49_2
        try clear hcz49_3
        try clear hcz49_4
        try clear hcz50_0
        try clear hcz50_1
        try clear hcz50_2
        try clear hcz51_0
        try clear hcz51_1
        try clear hcz51_2
        try clear hcz54_0
        try clear hcz54_1
        try clear hcz54_2
        try clear hcz54_3
        try clear hcz54_4
        try clear hcz55_0
        try clear hcz55_1
        try clear hcz55_2
        try clear hfz12_0
        try clear hfz12_1
        try clear hfz12_2
        try clear hfz14_0
        try clear hfz14_1
        try clear hfz14_2
        try clear hfz16_0
        try clear hfz16_1
        try clear hfz16_2
        try clear hfz19_0
        try clear hfz19_1
        try clear hfz19_2
        try clear hfz20_0
        try clear hfz20_1
        try clear hfz20_2
        try clear hfz21_0
        try clear hfz21_1
        try clear hfz21_2
        try clear hfz28_0
        try clear hfz28_1
        try clear hfz28_2
        try clear hfz31_0
        try clear hfz31_1
        try clear hfz31_2
        try clear hfz31_3
        try clear hfz31_4
        try clear hfz32_0
        try clear hfz32_1
        try clear hfz32_2
        try clear hfz34_0
        try clear hfz34_1
        try clear hfz34_2
        try clear hfz37_0
        try clear hfz37_1
        try clear hfz37_2
        try clear hfz37_3
        try clear hfz37_4
        try clear hfz38_0
        try clear hfz38_1
        try clear hfz38_2
        try clear hfz40_0
        try clear hfz40_1
        try clear hfz40_2
        try clear hfz43_0
        try clear hfz43_1
        try clear hfz43_2
        try clear hfz43_3
        try clear hfz43_4
        try clear hfz44_0
        try clear hfz44_1
        try clear hfz44_2
        try clear hfz46_0
        try clear hfz46_1
        try clear hfz46_2
        try clear hfz49_0
        try clear hfz49_1
        try clear hfz49_2
        try clear hfz49_3
        try clear hfz49_4
        try clear hfz50_0
        try clear hfz50_1
        try clear hfz50_2
        try clear hfz51_0
        try clear hfz51_1
        try clear hfz51_2
        try clear hfz54_0
        try clear hfz54_1
        try clear hfz54_2
        try clear hfz54_3
        try clear hfz54_4
        try clear hfz55_0
        try clear hfz55_1
        try clear hfz55_2
        try clear hx108_0
        try clear hx108_1
        try clear hx108_2
        try clear hx110_0
        try clear hx110_1
        try clear hx110_2
        try clear hx110_3
        try clear hx110_4
        try clear p1
        try clear p10
        try clear p108
        try clear p110
        try clear p2
        try clear p6
        try clear q1
        try clear q10
        try clear q108
        try clear q110
        obtain ⟨x13_3, x14_3, rfl, rfl, HA, HK3, HO_8, BK109, BK111, HB⟩ := hrel
        cases gk with
        | zero => exact absurd HA.out (by simp [pOnce.l1])
        | succ k3 =>
         have H := HA.out; clear HA
         simp only [pOnce.l1] at H
         by_cases c56 : x14_3 < (wrap64 (x9_1 + ((rd_T48 t101 x10_1).f2)))
         rotate_left
         ·
          rw [if_neg c56] at H; have c56b0 : decide (x14_3 < (wrap64 (x9_1 + ((rd_T48 t101 x10_1).f2)))) = false := decide_eq_false c56; clear c56
          by_cases c69 : ((rd_T50 l0 ((rd_T48 t101 x10_1).f0)).f0) = 8
          rotate_left
          ·
           rw [if_neg c69] at H; obtain ⟨c69b0, c69b1⟩ := bN c69
           by_cases c78 : x13_3.toList = ((rd_T50 l0 ((rd_T48 t101 x10_1).f0)).f1).toList
           rotate_left
           ·
            rw [if_neg c78] at H; obtain ⟨c78b0, c78b1⟩ := bN c78
            exact absurd ((oI H).trans hT.out) (by decide)
           rw [if_pos c78] at H; obtain ⟨c78b0, c78b1⟩ := bY c78; clear c78; have H' := aK H; clear H; have hnb79 := NB109_111.out; have hnc79 := NB111_109.out; obtain ⟨hcz80_0, hcz80_1, hcz80_2⟩ := kC3 BK109.out; obtain ⟨hfz80_0, hfz80_1, hfz80_2⟩ := bF3 BK109.out; obtain ⟨hcz81_0, hcz81_1, hcz81_2, hcz81_3, hcz81_4⟩ := kC5 BK111.out; obtain ⟨hfz81_0, hfz81_1, hfz81_2, hfz81_3, hfz81_4⟩ := bF5 BK111.out
           go_wp2
           repeat (go_quiet (fail); try go_wp2)
           go_roundg k3
           case measure => have := HK1.out; have := HJ8.out; have := HK3.out; omega
           case rel => exact ⟨(wrap64 (x9_1 + ((rd_T48 t101 x10_1).f2))), (wrap64 (x10_1 + 1)), sX, sX, H', ⟨by have := HK1.out; have := HJ8.out; have := HK3.out; omega⟩, ⟨by (with_reducible repeat (first | apply Kd.R_alloc | apply Kd.R_drewN | apply Kd.R_drew)); exact Kd.R_mono HO_8.out (fun _ hk => trivial)⟩, ⟨bX2 GE109.out GE111.out⟩⟩
          rw [if_pos c69] at H; obtain ⟨c69b0, c69b1⟩ := bY c69; clear c69
          by_cases c70 : ((rd_T48 t101 x10_1).f2) = 1
          rotate_left
          ·
           rw [if_neg c70] at H; obtain ⟨c70b0, c70b1⟩ := bN c70
           exact absurd ((oI H).trans hT.out) (by decide)
          rw [if_pos c70] at H; obtain ⟨c70b0, c70b1⟩ := bY c70; clear c70
          by_cases c71 : (((rd_T50 l0 ((rd_T48 t101 x10_1).f0)).f1).size : Int) = 2
          rotate_left
          ·
           rw [if_neg c71] at H; obtain ⟨c71b0, c71b1⟩ := bN c71
           exact absurd ((oI H).trans hT.out) (by decide)
          rw [if_pos c71] at H; obtain ⟨c71b0, c71b1⟩ := bY c71; clear c71
          by_cases c72 : 0 ≤ 1
          rotate_left
          ·
           rw [if_neg c72] at H
           exact absurd H (by simp)
          rw [if_pos c72] at H; have c72b0 := eq_true c72; have c72b1 : decide (0 ≤ 1) = true := decide_eq_true c72; clear c72
          by_cases c73 : 1 ≤ (((rd_T50 l0 ((rd_T48 t101 x10_1).f0)).f1).size : Int)
          rotate_left
          ·
           rw [if_neg c73] at H
           exact absurd H (by simp)
          rw [if_pos c73] at H; have c73b0 := eq_true c73; have c73b1 : decide (1 ≤ (((rd_T50 l0 ((rd_T48 t101 x10_1).f0)).f1).size : Int)) = true := decide_eq_true c73; clear c73
          by_cases c74 : (((rd_T50 l0 ((rd_T48 t101 x10_1).f0)).f1).extract 0 1).toList = x13_3.toList
          rotate_left
          ·
           rw [if_neg c74] at H; obtain ⟨c74b0, c74b1⟩ := bN c74
           exact absurd ((oI H).trans hT.out) (by decide)
          rw [if_pos c74] at H; obtain ⟨c74b0, c74b1⟩ := bY c74; clear c74; have H' := aK H; clear H; have hnb75 := NB109_111.out; have hnc75 := NB111_109.out; obtain ⟨hcz76_0, hcz76_1, hcz76_2⟩ := kC3 BK109.out; obtain ⟨hfz76_0, hfz76_1, hfz76_2⟩ := bF3 BK109.out; obtain ⟨hcz77_0, hcz77_1, hcz77_2, hcz77_3, hcz77_4⟩ := kC5 BK111.out; obtain ⟨hfz77_0, hfz77_1, hfz77_2, hfz77_3, hfz77_4⟩ := bF5 BK111.out
          go_wp2
          repeat (go_quiet (fail); try go_wp2)
          go_roundg k3
          case measure => have := HK1.out; have := HJ8.out; have := HK3.out; omega
          case rel => exact ⟨(wrap64 (x9_1 + ((rd_T48 t101 x10_1).f2))), (wrap64 (x10_1 + 1)), sX, sX, H', ⟨by have := HK1.out; have := HJ8.out; have := HK3.out; omega⟩, ⟨by (with_reducible repeat (first | apply Kd.R_alloc | apply Kd.R_drewN | apply Kd.R_drew)); exact Kd.R_mono HO_8.out (fun _ hk => trivial)⟩, ⟨bX2 GE109.out GE111.out⟩⟩
         rw [if_pos c56] at H; have c56b0 : decide (x14_3 < (wrap64 (x9_1 + ((rd_T48 t101 x10_1).f2)))) = true := decide_eq_true c56; clear c56
         by_cases c57 : 0 ≤ x14_3
         rotate_left
         ·
          rw [if_neg c57] at H
          exact absurd H (by simp)
         rw [if_pos c57] at H; have c57b0 : decide (0 ≤ x14_3) = true := decide_eq_true c57; clear c57
         by_cases c58 : x14_3 < (l1.length : Int)
         rotate_left
         ·
          rw [if_neg c58] at H
          exact absurd H (by simp)
         rw [if_pos c58] at H; have c58b0 : decide (x14_3 < (l1.length : Int)) = true := decide_eq_true c58; clear c58
         by_cases c59 : ((((rd_T42 l1 x14_3).f0) == 1) != (((rd_T50 l0 ((rd_T48 t101 x10_1).f0)).f0) != 8)) = true
         rotate_left
         ·
          rw [if_neg c59] at H
          have c59b0 : ((((rd_T42 l1 x14_3).f0) == 1) != (((rd_T50 l0 ((rd_T48 t101 x10_1).f0)).f0) != 8)) = false := by simpa using c59
          (try (have c59b1 : decide ((((rd_T42 l1 x14_3).f0) == 1) = (((rd_T50 l0 ((rd_T48 t101 x10_1).f0)).f0) != 8)) = true := by simpa using c59))
          (try (have c59b2 : ((((rd_T42 l1 x14_3).f0) == 1) == (((rd_T50 l0 ((rd_T48 t101 x10_1).f0)).f0) != 8)) = true := by simpa using c59))
          clear c59; obtain ⟨t114, A60, H⟩ := oC H
          try dsimp only at H
          obtain ⟨y115, hy115⟩ : ∃ y_ : List Int, y_ = (([t114] : List Int)) := ⟨_, rfl⟩
          replace H : (if x13_3.size + (strOfNums y115).size ≤ 9223372036854775807 then (pOnce.l1 k3 l0 l1 t101 x9_1 x10_1 (x13_3 ++ (strOfNums y115)) (wrap64 (x14_3 + 1)) ((rd_T48 t101 x10_1).f0) ((rd_T48 t101 x10_1).f1) ((rd_T48 t101 x10_1).f2) ((rd_T50 l0 ((rd_T48 t101 x10_1).f0)).f0) ((rd_T50 l0 ((rd_T48 t101 x10_1).f0)).f1) ((rd_T50 l0 ((rd_T48 t101 x10_1).f0)).f2) ((rd_T50 l0 ((rd_T48 t101 x10_1).f0)).f3) ((rd_T50 l0 ((rd_T48 t101 x10_1).f0)).f4)) else (none)) = some r := by first | (rw [hy115]; with_reducible exact H) | (have H2_ := (Option.bind_some _ _).symm.trans H; rw [hy115]; with_reducible exact H2_) | (have H2_ := (Option.bind_some _ _).symm.trans H; with_reducible exact H2_) | with_reducible exact H | (rw [hy115]; exact H) | exact H
          have Ny115 := aK hy115; clear hy115
          by_cases c61 : x13_3.size + (strOfNums y115).size ≤ 9223372036854775807
          rotate_left
          ·
           rw [if_neg c61] at H
           exact absurd H (by simp)
          rw [if_pos c61] at H; have c61b0 := eq_true c61; have c61b1 : decide (x13_3.size + (strOfNums y115).size ≤ 9223372036854775807) = true := decide_eq_true c61
          try have c61b2 : (9223372036854775807 < x13_3.size + (strOfNums y115).size) = False := eq_false (Nat.not_lt.2 c61)
          have H' := aK H; clear H; have hnb62 := NB109_111.out; have hnc62 := NB111_109.out; obtain ⟨hcz63_0, hcz63_1, hcz63_2⟩ := kC3 BK109.out; obtain ⟨hfz63_0, hfz63_1, hfz63_2⟩ := bF3 BK109.out; have p112 : 0 ≤ (x14_3 : Int) := oA; have q112 : x14_3 < (l1.length : Int) := oA
          obtain ⟨ad112, e112, hx112_0, hx112_1, hx112_2⟩ := at_T42 HR1.out x14_3 p112 q112
          cases e112
          replace hx112_0 := (HB.out.cell (World.block_lt_of_cell? w _ hx112_0)).trans hx112_0
          replace hx112_1 := (HB.out.cell (World.block_lt_of_cell? w _ hx112_1)).trans hx112_1
          replace hx112_2 := (HB.out.cell (World.block_lt_of_cell? w _ hx112_2)).trans hx112_2
          replace p112 := eq_true p112; replace q112 := eq_true q112; obtain ⟨hcz64_0, hcz64_1, hcz64_2, hcz64_3, hcz64_4⟩ := kC5 BK111.out; obtain ⟨hfz64_0, hfz64_1, hfz64_2, hfz64_3, hfz64_4⟩ := bF5 BK111.out; have p113 : 0 ≤ (x14_3 : Int) := oA; have q113 : x14_3 < (l1.length : Int) := oA
          obtain ⟨ad113, e113, hx113_0, hx113_1, hx113_2⟩ := at_T42 HR1.out x14_3 p113 q113
          obtain rfl : ad112 = ad113 := (by injection e113)
          replace hx113_0 := (HB.out.cell (World.block_lt_of_cell? w _ hx113_0)).trans hx113_0
          replace hx113_1 := (HB.out.cell (World.block_lt_of_cell? w _ hx113_1)).trans hx113_1
          replace hx113_2 := (HB.out.cell (World.block_lt_of_cell? w _ hx113_2)).trans hx113_2
          replace p113 := eq_true p113; replace q113 := eq_true q113
          go_wp2_with (first | (go_at_call 22; (with_reducible refine (chars_Lower.calls ((rd_T42 l1 x14_3).f1) t114 _ A60.out).mono ?_); rintro e w65 ⟨rfl, hb⟩; replace HO_8 := aK (Kd.R_below (rX HO_8.out) hb); replace BK109 := aK (kBe (g := gb109) (o := .cells #[.int .i64 ((rd_T48 t101 x10_1).f0), .int .i64 ((rd_T48 t101 x10_1).f1), .int .i64 ((rd_T48 t101 x10_1).f2)] 48 (0, 0)) (kX BK109.out) hb); replace BK111 := aK (kBe (g := gb111) (o := .cells #[.int .i64 ((rd_T50 l0 ((rd_T48 t101 x10_1).f0)).f0), .string ((rd_T50 l0 ((rd_T48 t101 x10_1).f0)).f1), .string ((rd_T50 l0 ((rd_T48 t101 x10_1).f0)).f2), .int .i64 ((rd_T50 l0 ((rd_T48 t101 x10_1).f0)).f3), .int .i64 ((rd_T50 l0 ((rd_T48 t101 x10_1).f0)).f4)] 50 (0, 0)) (kX BK111.out) hb); replace HB := aK (bSp (bX2 GE109.out GE111.out) hb); clear hb) | ((with_reducible refine gate_dst (N := 148) rfl ?_); (try (refine gate_guard (by rfl) ?_; dsimp only)); refine Kd.R_lit (Kd.int .u8) _ 5 ?hg (N := 148) ?hd (xs := ([t114] : List Int)) (inner := [.int .u8 t114]) (ok := fun _ => True) (okp := fun _ => True) ?hr ?hp (fun _ hk => hk) trivial (Below.refl _ _) (Nat.le_refl _) (by simp) ?_; (case hd => rfl); (case hg => rfl); (case hr => first | (go_simp; done) | (go_simp; rfl)); (case hp => exact (Reps.one (show Kd.M (Kd.int .u8) _ _ _ t114 [.int .u8 t114] from rfl) (Reps.none _ _))); intro v116 w66 ho67 hb hg_ hnew_; clear hg_ hnew_; (first | rw [← Ny115.out] at ho67 | (simp only [Int.reduceToNat] at ho67; rw [← Ny115.out] at ho67)); replace HO_8 := aK (Kd.R_below (rX HO_8.out) hb); have HO117 := aK (Kd.R_lower ho67 (bSz (bX2 GE109.out GE111.out))); replace BK109 := aK (kBe (g := gb109) (o := .cells #[.int .i64 ((rd_T48 t101 x10_1).f0), .int .i64 ((rd_T48 t101 x10_1).f1), .int .i64 ((rd_T48 t101 x10_1).f2)] 48 (0, 0)) (kX BK109.out) hb); replace BK111 := aK (kBe (g := gb111) (o := .cells #[.int .i64 ((rd_T50 l0 ((rd_T48 t101 x10_1).f0)).f0), .string ((rd_T50 l0 ((rd_T48 t101 x10_1).f0)).f1), .string ((rd_T50 l0 ((rd_T48 t101 x10_1).f0)).f2), .int .i64 ((rd_T50 l0 ((rd_T48 t101 x10_1).f0)).f3), .int .i64 ((rd_T50 l0 ((rd_T48 t101 x10_1).f0)).f4)] 50 (0, 0)) (kX BK111.out) hb); replace HB := aK (bSp (bX2 GE109.out GE111.out) hb); clear hb ho67; have hcv68 := own_string (P := Tryz.prog) Tryz.underlying52 Tryz.underlying5 Tryz.underlying9 (Kd.own_of_R HO117.out)))
          repeat (go_quiet (first | (go_at_call 22; (with_reducible refine (chars_Lower.calls ((rd_T42 l1 x14_3).f1) t114 _ A60.out).mono ?_); rintro e w65 ⟨rfl, hb⟩; replace HO_8 := aK (Kd.R_below (rX HO_8.out) hb); replace BK109 := aK (kBe (g := gb109) (o := .cells #[.int .i64 ((rd_T48 t101 x10_1).f0), .int .i64 ((rd_T48 t101 x10_1).f1), .int .i64 ((rd_T48 t101 x10_1).f2)] 48 (0, 0)) (kX BK109.out) hb); replace BK111 := aK (kBe (g := gb111) (o := .cells #[.int .i64 ((rd_T50 l0 ((rd_T48 t101 x10_1).f0)).f0), .string ((rd_T50 l0 ((rd_T48 t101 x10_1).f0)).f1), .string ((rd_T50 l0 ((rd_T48 t101 x10_1).f0)).f2), .int .i64 ((rd_T50 l0 ((rd_T48 t101 x10_1).f0)).f3), .int .i64 ((rd_T50 l0 ((rd_T48 t101 x10_1).f0)).f4)] 50 (0, 0)) (kX BK111.out) hb); replace HB := aK (bSp (bX2 GE109.out GE111.out) hb); clear hb) | ((with_reducible refine gate_dst (N := 148) rfl ?_); (try (refine gate_guard (by rfl) ?_; dsimp only)); refine Kd.R_lit (Kd.int .u8) _ 5 ?hg (N := 148) ?hd (xs := ([t114] : List Int)) (inner := [.int .u8 t114]) (ok := fun _ => True) (okp := fun _ => True) ?hr ?hp (fun _ hk => hk) trivial (Below.refl _ _) (Nat.le_refl _) (by simp) ?_; (case hd => rfl); (case hg => rfl); (case hr => first | (go_simp; done) | (go_simp; rfl)); (case hp => exact (Reps.one (show Kd.M (Kd.int .u8) _ _ _ t114 [.int .u8 t114] from rfl) (Reps.none _ _))); intro v116 w66 ho67 hb hg_ hnew_; clear hg_ hnew_; (first | rw [← Ny115.out] at ho67 | (simp only [Int.reduceToNat] at ho67; rw [← Ny115.out] at ho67)); replace HO_8 := aK (Kd.R_below (rX HO_8.out) hb); have HO117 := aK (Kd.R_lower ho67 (bSz (bX2 GE109.out GE111.out))); replace BK109 := aK (kBe (g := gb109) (o := .cells #[.int .i64 ((rd_T48 t101 x10_1).f0), .int .i64 ((rd_T48 t101 x10_1).f1), .int .i64 ((rd_T48 t101 x10_1).f2)] 48 (0, 0)) (kX BK109.out) hb); replace BK111 := aK (kBe (g := gb111) (o := .cells #[.int .i64 ((rd_T50 l0 ((rd_T48 t101 x10_1).f0)).f0), .string ((rd_T50 l0 ((rd_T48 t101 x10_1).f0)).f1), .string ((rd_T50 l0 ((rd_T48 t101 x10_1).f0)).f2), .int .i64 ((rd_T50 l0 ((rd_T48 t101 x10_1).f0)).f3), .int .i64 ((rd_T50 l0 ((rd_T48 t101 x10_1).f0)).f4)] 50 (0, 0)) (kX BK111.out) hb); replace HB := aK (bSp (bX2 GE109.out GE111.out) hb); clear hb ho67; have hcv68 := own_string (P := Tryz.prog) Tryz.underlying52 Tryz.underlying5 Tryz.underlying9 (Kd.own_of_R HO117.out))); try go_wp2_with (first | (go_at_call 22; (with_reducible refine (chars_Lower.calls ((rd_T42 l1 x14_3).f1) t114 _ A60.out).mono ?_); rintro e w65 ⟨rfl, hb⟩; replace HO_8 := aK (Kd.R_below (rX HO_8.out) hb); replace BK109 := aK (kBe (g := gb109) (o := .cells #[.int .i64 ((rd_T48 t101 x10_1).f0), .int .i64 ((rd_T48 t101 x10_1).f1), .int .i64 ((rd_T48 t101 x10_1).f2)] 48 (0, 0)) (kX BK109.out) hb); replace BK111 := aK (kBe (g := gb111) (o := .cells #[.int .i64 ((rd_T50 l0 ((rd_T48 t101 x10_1).f0)).f0), .string ((rd_T50 l0 ((rd_T48 t101 x10_1).f0)).f1), .string ((rd_T50 l0 ((rd_T48 t101 x10_1).f0)).f2), .int .i64 ((rd_T50 l0 ((rd_T48 t101 x10_1).f0)).f3), .int .i64 ((rd_T50 l0 ((rd_T48 t101 x10_1).f0)).f4)] 50 (0, 0)) (kX BK111.out) hb); replace HB := aK (bSp (bX2 GE109.out GE111.out) hb); clear hb) | ((with_reducible refine gate_dst (N := 148) rfl ?_); (try (refine gate_guard (by rfl) ?_; dsimp only)); refine Kd.R_lit (Kd.int .u8) _ 5 ?hg (N := 148) ?hd (xs := ([t114] : List Int)) (inner := [.int .u8 t114]) (ok := fun _ => True) (okp := fun _ => True) ?hr ?hp (fun _ hk => hk) trivial (Below.refl _ _) (Nat.le_refl _) (by simp) ?_; (case hd => rfl); (case hg => rfl); (case hr => first | (go_simp; done) | (go_simp; rfl)); (case hp => exact (Reps.one (show Kd.M (Kd.int .u8) _ _ _ t114 [.int .u8 t114] from rfl) (Reps.none _ _))); intro v116 w66 ho67 hb hg_ hnew_; clear hg_ hnew_; (first | rw [← Ny115.out] at ho67 | (simp only [Int.reduceToNat] at ho67; rw [← Ny115.out] at ho67)); replace HO_8 := aK (Kd.R_below (rX HO_8.out) hb); have HO117 := aK (Kd.R_lower ho67 (bSz (bX2 GE109.out GE111.out))); replace BK109 := aK (kBe (g := gb109) (o := .cells #[.int .i64 ((rd_T48 t101 x10_1).f0), .int .i64 ((rd_T48 t101 x10_1).f1), .int .i64 ((rd_T48 t101 x10_1).f2)] 48 (0, 0)) (kX BK109.out) hb); replace BK111 := aK (kBe (g := gb111) (o := .cells #[.int .i64 ((rd_T50 l0 ((rd_T48 t101 x10_1).f0)).f0), .string ((rd_T50 l0 ((rd_T48 t101 x10_1).f0)).f1), .string ((rd_T50 l0 ((rd_T48 t101 x10_1).f0)).f2), .int .i64 ((rd_T50 l0 ((rd_T48 t101 x10_1).f0)).f3), .int .i64 ((rd_T50 l0 ((rd_T48 t101 x10_1).f0)).f4)] 50 (0, 0)) (kX BK111.out) hb); replace HB := aK (bSp (bX2 GE109.out GE111.out) hb); clear hb ho67; have hcv68 := own_string (P := Tryz.prog) Tryz.underlying52 Tryz.underlying5 Tryz.underlying9 (Kd.own_of_R HO117.out))))
          go_roundg k3
          case measure => have := HK1.out; have := HJ8.out; have := HK3.out; omega
          case rel => exact ⟨(x13_3 ++ (strOfNums y115)), (wrap64 (x14_3 + 1)), sX, sX, H', ⟨by have := HK1.out; have := HJ8.out; have := HK3.out; omega⟩, ⟨rX HO_8.out⟩, ⟨kX BK109.out⟩, ⟨kX BK111.out⟩, ⟨bX2 GE109.out GE111.out⟩⟩
         rw [if_pos c59] at H
         have c59b0 : ((((rd_T42 l1 x14_3).f0) == 1) != (((rd_T50 l0 ((rd_T48 t101 x10_1).f0)).f0) != 8)) = true := c59
         (try (have c59b1 : decide ((((rd_T42 l1 x14_3).f0) == 1) = (((rd_T50 l0 ((rd_T48 t101 x10_1).f0)).f0) != 8)) = false := by simpa using c59))
         (try (have c59b2 : ((((rd_T42 l1 x14_3).f0) == 1) == (((rd_T50 l0 ((rd_T48 t101 x10_1).f0)).f0) != 8)) = false := by simpa using c59))
         (try (have c59b3 : ¬ ((((rd_T42 l1 x14_3).f0) == 1) = (((rd_T50 l0 ((rd_T48 t101 x10_1).f0)).f0) != 8)) := by simpa using c59))
         clear c59
         exact absurd ((oI H).trans hT.out) (by decide)
      rw [if_pos c25] at H; obtain ⟨c25b0, c25b1⟩ := bY c25; clear c25
      by_cases c26 : ((rd_T50 l0 ((rd_T48 t101 x10_1).f0)).f0) = 8
      rotate_left
      ·
       rw [if_neg c26] at H; obtain ⟨c26b0, c26b1⟩ := bN c26
       exact absurd ((oI H).trans hT.out) (by decide)
      rw [if_pos c26] at H; obtain ⟨c26b0, c26b1⟩ := bY c26; clear c26
      by_cases c27 : ((rd_T50 l0 ((rd_T48 t101 x10_1).f0)).f1).toList = ([99, 97, 112] : List UInt8)
      rotate_left
      ·
       rw [if_neg c27] at H; obtain ⟨c27b0, c27b1⟩ := bN c27
       by_cases c33 : ((rd_T50 l0 ((rd_T48 t101 x10_1).f0)).f1).toList = ([99, 97, 112, 115] : List UInt8)
       rotate_left
       ·
        rw [if_neg c33] at H; obtain ⟨c33b0, c33b1⟩ := bN c33
        by_cases c39 : ((rd_T50 l0 ((rd_T48 t101 x10_1).f0)).f1).toList = ([110, 117, 109] : List UInt8)
        rotate_left
        ·
         rw [if_neg c39] at H; obtain ⟨c39b0, c39b1⟩ := bN c39
         by_cases c45 : ((rd_T50 l0 ((rd_T48 t101 x10_1).f0)).f1).toList = ([108, 101, 116] : List UInt8)
         rotate_left
         ·
          rw [if_neg c45] at H; obtain ⟨c45b0, c45b1⟩ := bN c45
          exact absurd ((oI H).trans hT.out) (by decide)
         rw [if_pos c45] at H; obtain ⟨c45b0, c45b1⟩ := bY c45; clear c45; have H' := aK H; clear H; obtain ⟨hcz46_0, hcz46_1, hcz46_2⟩ := kC3 BK109.out; obtain ⟨hfz46_0, hfz46_1, hfz46_2⟩ := bF3 BK109.out; have p110 : 0 ≤ (((rd_T48 t101 x10_1).f0) : Int) := oA; have q110 : ((rd_T48 t101 x10_1).f0) < (l0.length : Int) := oA
         obtain ⟨ad110, e110, hx110_0, hx110_1, hx110_2, hx110_3, hx110_4⟩ := at_T50 HR0.out ((rd_T48 t101 x10_1).f0) p110 q110
         cases e110
         replace hx110_0 := (HB.out.cell (World.block_lt_of_cell? w _ hx110_0)).trans hx110_0
         replace hx110_1 := (HB.out.cell (World.block_lt_of_cell? w _ hx110_1)).trans hx110_1
         replace hx110_2 := (HB.out.cell (World.block_lt_of_cell? w _ hx110_2)).trans hx110_2
         replace hx110_3 := (HB.out.cell (World.block_lt_of_cell? w _ hx110_3)).trans hx110_3
         replace hx110_4 := (HB.out.cell (World.block_lt_of_cell? w _ hx110_4)).trans hx110_4
         replace p110 := eq_true p110; replace q110 := eq_true q110
         go_wp2_with (first | ((with_reducible refine gate_dst (N := 12) rfl ?_); (try (refine gate_guard (by rfl) ?_; dsimp only)); refine box_event ?hg (N := 12) ?hd (cs := #[.int .i64 0, .string (⟨#[]⟩ : ByteArray), .string (⟨#[]⟩ : ByteArray), .int .i64 0, .int .i64 0]) (t := 50) ?hr ?_; (case hd => rfl); (case hg => rfl); (case hr => first | (go_simp; done) | (go_simp; rfl)); intro gb111 hg w47 hbox hb; have n0_ := aK (Kd.R_below (rX HO_8.out) hb); have n1_ := aK (kBe (g := gb109) (o := .cells #[.int .i64 ((rd_T48 t101 x10_1).f0), .int .i64 ((rd_T48 t101 x10_1).f1), .int .i64 ((rd_T48 t101 x10_1).f2)] 48 (0, 0)) (kX BK109.out) hb); have n2_ := aK (bSp (bX1 GE109.out) hb); have n3_ := aK (hbox); have n4_ := aK ((by rw [hg]; exact (bSz (bX1 GE109.out)) : w.heap.size ≤ gb111)); have n5_ := aK ((by rw [hg]; exact (bSz (bX1 GE109.out)) : w.heap.size ≤ gb111)); have n6_ := aK ((by rw [hg]; exact Nat.ne_of_lt (blk_lt (g := gb109) (o := .cells #[.int .i64 ((rd_T48 t101 x10_1).f0), .int .i64 ((rd_T48 t101 x10_1).f1), .int .i64 ((rd_T48 t101 x10_1).f2)] 48 (0, 0)) (kX BK109.out)) : gb109 ≠ gb111)); have n7_ := aK ((by rw [hg]; exact Nat.ne_of_gt (blk_lt (g := gb109) (o := .cells #[.int .i64 ((rd_T48 t101 x10_1).f0), .int .i64 ((rd_T48 t101 x10_1).f1), .int .i64 ((rd_T48 t101 x10_1).f2)] 48 (0, 0)) (kX BK109.out)) : gb111 ≠ gb109)); clear HO_8; clear BK109; clear HB; have HO_8 := n0_; have BK109 := n1_; have HB := n2_; have BK111 := n3_; have GW111 := n4_; have GE111 := n5_; have NB109_111 := n6_; have NB111_109 := n7_; clear n0_ n1_ n2_ n3_ n4_ n5_ n6_ n7_; clear hb hbox hg; have hnb48 := NB111_109.out; have hnc48 := NB109_111.out; have hcz49_0 : w47.cell? ⟨gb111, 0, none⟩ = some (.int .i64 0) := (kCe BK111.out 0).trans rfl; have hcz49_1 : w47.cell? ⟨gb111, 1, none⟩ = some (.string (⟨#[]⟩ : ByteArray)) := (kCe BK111.out 1).trans rfl; have hcz49_2 : w47.cell? ⟨gb111, 2, none⟩ = some (.string (⟨#[]⟩ : ByteArray)) := (kCe BK111.out 2).trans rfl; have hcz49_3 : w47.cell? ⟨gb111, 3, none⟩ = some (.int .i64 0) := (kCe BK111.out 3).trans rfl; have hcz49_4 : w47.cell? ⟨gb111, 4, none⟩ = some (.int .i64 0) := (kCe BK111.out 4).trans rfl; have hfz49_0 := bFz BK111.out 0; have hfz49_1 := bFz BK111.out 1; have hfz49_2 := bFz BK111.out 2; have hfz49_3 := bFz BK111.out 3; have hfz49_4 := bFz BK111.out 4; have hcz50_0 : w47.cell? ⟨gb109, 0, none⟩ = some (.int .i64 ((rd_T48 t101 x10_1).f0)) := (kCe BK109.out 0).trans rfl; have hcz50_1 : w47.cell? ⟨gb109, 1, none⟩ = some (.int .i64 ((rd_T48 t101 x10_1).f1)) := (kCe BK109.out 1).trans rfl; have hcz50_2 : w47.cell? ⟨gb109, 2, none⟩ = some (.int .i64 ((rd_T48 t101 x10_1).f2)) := (kCe BK109.out 2).trans rfl; have hfz50_0 := bFz BK109.out 0; have hfz50_1 := bFz BK109.out 1; have hfz50_2 := bFz BK109.out 2))
         repeat (go_quiet (first | ((with_reducible refine gate_dst (N := 12) rfl ?_); (try (refine gate_guard (by rfl) ?_; dsimp only)); refine box_event ?hg (N := 12) ?hd (cs := #[.int .i64 0, .string (⟨#[]⟩ : ByteArray), .string (⟨#[]⟩ : ByteArray), .int .i64 0, .int .i64 0]) (t := 50) ?hr ?_; (case hd => rfl); (case hg => rfl); (case hr => first | (go_simp; done) | (go_simp; rfl)); intro gb111 hg w47 hbox hb; have n0_ := aK (Kd.R_below (rX HO_8.out) hb); have n1_ := aK (kBe (g := gb109) (o := .cells #[.int .i64 ((rd_T48 t101 x10_1).f0), .int .i64 ((rd_T48 t101 x10_1).f1), .int .i64 ((rd_T48 t101 x10_1).f2)] 48 (0, 0)) (kX BK109.out) hb); have n2_ := aK (bSp (bX1 GE109.out) hb); have n3_ := aK (hbox); have n4_ := aK ((by rw [hg]; exact (bSz (bX1 GE109.out)) : w.heap.size ≤ gb111)); have n5_ := aK ((by rw [hg]; exact (bSz (bX1 GE109.out)) : w.heap.size ≤ gb111)); have n6_ := aK ((by rw [hg]; exact Nat.ne_of_lt (blk_lt (g := gb109) (o := .cells #[.int .i64 ((rd_T48 t101 x10_1).f0), .int .i64 ((rd_T48 t101 x10_1).f1), .int .i64 ((rd_T48 t101 x10_1).f2)] 48 (0, 0)) (kX BK109.out)) : gb109 ≠ gb111)); have n7_ := aK ((by rw [hg]; exact Nat.ne_of_gt (blk_lt (g := gb109) (o := .cells #[.int .i64 ((rd_T48 t101 x10_1).f0), .int .i64 ((rd_T48 t101 x10_1).f1), .int .i64 ((rd_T48 t101 x10_1).f2)] 48 (0, 0)) (kX BK109.out)) : gb111 ≠ gb109)); clear HO_8; clear BK109; clear HB; have HO_8 := n0_; have BK109 := n1_; have HB := n2_; have BK111 := n3_; have GW111 := n4_; have GE111 := n5_; have NB109_111 := n6_; have NB111_109 := n7_; clear n0_ n1_ n2_ n3_ n4_ n5_ n6_ n7_; clear hb hbox hg; have hnb48 := NB111_109.out; have hnc48 := NB109_111.out; have hcz49_0 : w47.cell? ⟨gb111, 0, none⟩ = some (.int .i64 0) := (kCe BK111.out 0).trans rfl; have hcz49_1 : w47.cell? ⟨gb111, 1, none⟩ = some (.string (⟨#[]⟩ : ByteArray)) := (kCe BK111.out 1).trans rfl; have hcz49_2 : w47.cell? ⟨gb111, 2, none⟩ = some (.string (⟨#[]⟩ : ByteArray)) := (kCe BK111.out 2).trans rfl; have hcz49_3 : w47.cell? ⟨gb111, 3, none⟩ = some (.int .i64 0) := (kCe BK111.out 3).trans rfl; have hcz49_4 : w47.cell? ⟨gb111, 4, none⟩ = some (.int .i64 0) := (kCe BK111.out 4).trans rfl; have hfz49_0 := bFz BK111.out 0; have hfz49_1 := bFz BK111.out 1; have hfz49_2 := bFz BK111.out 2; have hfz49_3 := bFz BK111.out 3; have hfz49_4 := bFz BK111.out 4; have hcz50_0 : w47.cell? ⟨gb109, 0, none⟩ = some (.int .i64 ((rd_T48 t101 x10_1).f0)) := (kCe BK109.out 0).trans rfl; have hcz50_1 : w47.cell? ⟨gb109, 1, none⟩ = some (.int .i64 ((rd_T48 t101 x10_1).f1)) := (kCe BK109.out 1).trans rfl; have hcz50_2 : w47.cell? ⟨gb109, 2, none⟩ = some (.int .i64 ((rd_T48 t101 x10_1).f2)) := (kCe BK109.out 2).trans rfl; have hfz50_0 := bFz BK109.out 0; have hfz50_1 := bFz BK109.out 1; have hfz50_2 := bFz BK109.out 2)); try go_wp2_with (first | ((with_reducible refine gate_dst (N := 12) rfl ?_); (try (refine gate_guard (by rfl) ?_; dsimp only)); refine box_event ?hg (N := 12) ?hd (cs := #[.int .i64 0, .string (⟨#[]⟩ : ByteArray), .string (⟨#[]⟩ : ByteArray), .int .i64 0, .int .i64 0]) (t := 50) ?hr ?_; (case hd => rfl); (case hg => rfl); (case hr => first | (go_simp; done) | (go_simp; rfl)); intro gb111 hg w47 hbox hb; have n0_ := aK (Kd.R_below (rX HO_8.out) hb); have n1_ := aK (kBe (g := gb109) (o := .cells #[.int .i64 ((rd_T48 t101 x10_1).f0), .int .i64 ((rd_T48 t101 x10_1).f1), .int .i64 ((rd_T48 t101 x10_1).f2)] 48 (0, 0)) (kX BK109.out) hb); have n2_ := aK (bSp (bX1 GE109.out) hb); have n3_ := aK (hbox); have n4_ := aK ((by rw [hg]; exact (bSz (bX1 GE109.out)) : w.heap.size ≤ gb111)); have n5_ := aK ((by rw [hg]; exact (bSz (bX1 GE109.out)) : w.heap.size ≤ gb111)); have n6_ := aK ((by rw [hg]; exact Nat.ne_of_lt (blk_lt (g := gb109) (o := .cells #[.int .i64 ((rd_T48 t101 x10_1).f0), .int .i64 ((rd_T48 t101 x10_1).f1), .int .i64 ((rd_T48 t101 x10_1).f2)] 48 (0, 0)) (kX BK109.out)) : gb109 ≠ gb111)); have n7_ := aK ((by rw [hg]; exact Nat.ne_of_gt (blk_lt (g := gb109) (o := .cells #[.int .i64 ((rd_T48 t101 x10_1).f0), .int .i64 ((rd_T48 t101 x10_1).f1), .int .i64 ((rd_T48 t101 x10_1).f2)] 48 (0, 0)) (kX BK109.out)) : gb111 ≠ gb109)); clear HO_8; clear BK109; clear HB; have HO_8 := n0_; have BK109 := n1_; have HB := n2_; have BK111 := n3_; have GW111 := n4_; have GE111 := n5_; have NB109_111 := n6_; have NB111_109 := n7_; clear n0_ n1_ n2_ n3_ n4_ n5_ n6_ n7_; clear hb hbox hg; have hnb48 := NB111_109.out; have hnc48 := NB109_111.out; have hcz49_0 : w47.cell? ⟨gb111, 0, none⟩ = some (.int .i64 0) := (kCe BK111.out 0).trans rfl; have hcz49_1 : w47.cell? ⟨gb111, 1, none⟩ = some (.string (⟨#[]⟩ : ByteArray)) := (kCe BK111.out 1).trans rfl; have hcz49_2 : w47.cell? ⟨gb111, 2, none⟩ = some (.string (⟨#[]⟩ : ByteArray)) := (kCe BK111.out 2).trans rfl; have hcz49_3 : w47.cell? ⟨gb111, 3, none⟩ = some (.int .i64 0) := (kCe BK111.out 3).trans rfl; have hcz49_4 : w47.cell? ⟨gb111, 4, none⟩ = some (.int .i64 0) := (kCe BK111.out 4).trans rfl; have hfz49_0 := bFz BK111.out 0; have hfz49_1 := bFz BK111.out 1; have hfz49_2 := bFz BK111.out 2; have hfz49_3 := bFz BK111.out 3; have hfz49_4 := bFz BK111.out 4; have hcz50_0 : w47.cell? ⟨gb109, 0, none⟩ = some (.int .i64 ((rd_T48 t101 x10_1).f0)) := (kCe BK109.out 0).trans rfl; have hcz50_1 : w47.cell? ⟨gb109, 1, none⟩ = some (.int .i64 ((rd_T48 t101 x10_1).f1)) := (kCe BK109.out 1).trans rfl; have hcz50_2 : w47.cell? ⟨gb109, 2, none⟩ = some (.int .i64 ((rd_T48 t101 x10_1).f2)) := (kCe BK109.out 2).trans rfl; have hfz50_0 := bFz BK109.out 0; have hfz50_1 := bFz BK109.out 1; have hfz50_2 := bFz BK109.out 2)))
         go_roundg kj8
         case measure => have := HK1.out; have := HJ8.out; omega
         case rel => exact ⟨(x9_1), (wrap64 (x10_1 + 1)), sX, sX, H', ⟨by have := HK1.out; have := HJ8.out; omega⟩, ⟨by (with_reducible repeat (first | apply Kd.R_alloc | apply Kd.R_drewN | apply Kd.R_drew)); exact Kd.R_mono (Kd.R_far (p := ⟨gb111, 4, none⟩) (Kd.R_far (p := ⟨gb111, 3, none⟩) (Kd.R_far (p := ⟨gb111, 2, none⟩) (Kd.R_far (p := ⟨gb111, 1, none⟩) (Kd.R_far (p := ⟨gb111, 0, none⟩) (Kd.R_types HO_8.out BK111.out (by decide)) (fun _ hk => hk.2) (.int .i64 ((rd_T50 l0 ((rd_T48 t101 x10_1).f0)).f0))) (fun _ hk => hk.2) (.string ((rd_T50 l0 ((rd_T48 t101 x10_1).f0)).f1))) (fun _ hk => hk.2) (.string ((rd_T50 l0 ((rd_T48 t101 x10_1).f0)).f2))) (fun _ hk => hk.2) (.int .i64 ((rd_T50 l0 ((rd_T48 t101 x10_1).f0)).f3))) (fun _ hk => hk.2) (.int .i64 ((rd_T50 l0 ((rd_T48 t101 x10_1).f0)).f4))) (fun _ hk => trivial)⟩, ⟨bX2 GE109.out GE111.out⟩⟩
        rw [if_pos c39] at H; obtain ⟨c39b0, c39b1⟩ := bY c39; clear c39; have H' := aK H; clear H; obtain ⟨hcz40_0, hcz40_1, hcz40_2⟩ := kC3 BK109.out; obtain ⟨hfz40_0, hfz40_1, hfz40_2⟩ := bF3 BK109.out; have p110 : 0 ≤ (((rd_T48 t101 x10_1).f0) : Int) := oA; have q110 : ((rd_T48 t101 x10_1).f0) < (l0.length : Int) := oA
        obtain ⟨ad110, e110, hx110_0, hx110_1, hx110_2, hx110_3, hx110_4⟩ := at_T50 HR0.out ((rd_T48 t101 x10_1).f0) p110 q110
        cases e110
        replace hx110_0 := (HB.out.cell (World.block_lt_of_cell? w _ hx110_0)).trans hx110_0
        replace hx110_1 := (HB.out.cell (World.block_lt_of_cell? w _ hx110_1)).trans hx110_1
        replace hx110_2 := (HB.out.cell (World.block_lt_of_cell? w _ hx110_2)).trans hx110_2
        replace hx110_3 := (HB.out.cell (World.block_lt_of_cell? w _ hx110_3)).trans hx110_3
        replace hx110_4 := (HB.out.cell (World.block_lt_of_cell? w _ hx110_4)).trans hx110_4
        replace p110 := eq_true p110; replace q110 := eq_true q110
        go_wp2_with (first | ((with_reducible refine gate_dst (N := 12) rfl ?_); (try (refine gate_guard (by rfl) ?_; dsimp only)); refine box_event ?hg (N := 12) ?hd (cs := #[.int .i64 0, .string (⟨#[]⟩ : ByteArray), .string (⟨#[]⟩ : ByteArray), .int .i64 0, .int .i64 0]) (t := 50) ?hr ?_; (case hd => rfl); (case hg => rfl); (case hr => first | (go_simp; done) | (go_simp; rfl)); intro gb111 hg w41 hbox hb; have n0_ := aK (Kd.R_below (rX HO_8.out) hb); have n1_ := aK (kBe (g := gb109) (o := .cells #[.int .i64 ((rd_T48 t101 x10_1).f0), .int .i64 ((rd_T48 t101 x10_1).f1), .int .i64 ((rd_T48 t101 x10_1).f2)] 48 (0, 0)) (kX BK109.out) hb); have n2_ := aK (bSp (bX1 GE109.out) hb); have n3_ := aK (hbox); have n4_ := aK ((by rw [hg]; exact (bSz (bX1 GE109.out)) : w.heap.size ≤ gb111)); have n5_ := aK ((by rw [hg]; exact (bSz (bX1 GE109.out)) : w.heap.size ≤ gb111)); have n6_ := aK ((by rw [hg]; exact Nat.ne_of_lt (blk_lt (g := gb109) (o := .cells #[.int .i64 ((rd_T48 t101 x10_1).f0), .int .i64 ((rd_T48 t101 x10_1).f1), .int .i64 ((rd_T48 t101 x10_1).f2)] 48 (0, 0)) (kX BK109.out)) : gb109 ≠ gb111)); have n7_ := aK ((by rw [hg]; exact Nat.ne_of_gt (blk_lt (g := gb109) (o := .cells #[.int .i64 ((rd_T48 t101 x10_1).f0), .int .i64 ((rd_T48 t101 x10_1).f1), .int .i64 ((rd_T48 t101 x10_1).f2)] 48 (0, 0)) (kX BK109.out)) : gb111 ≠ gb109)); clear HO_8; clear BK109; clear HB; have HO_8 := n0_; have BK109 := n1_; have HB := n2_; have BK111 := n3_; have GW111 := n4_; have GE111 := n5_; have NB109_111 := n6_; have NB111_109 := n7_; clear n0_ n1_ n2_ n3_ n4_ n5_ n6_ n7_; clear hb hbox hg; have hnb42 := NB111_109.out; have hnc42 := NB109_111.out; have hcz43_0 : w41.cell? ⟨gb111, 0, none⟩ = some (.int .i64 0) := (kCe BK111.out 0).trans rfl; have hcz43_1 : w41.cell? ⟨gb111, 1, none⟩ = some (.string (⟨#[]⟩ : ByteArray)) := (kCe BK111.out 1).trans rfl; have hcz43_2 : w41.cell? ⟨gb111, 2, none⟩ = some (.string (⟨#[]⟩ : ByteArray)) := (kCe BK111.out 2).trans rfl; have hcz43_3 : w41.cell? ⟨gb111, 3, none⟩ = some (.int .i64 0) := (kCe BK111.out 3).trans rfl; have hcz43_4 : w41.cell? ⟨gb111, 4, none⟩ = some (.int .i64 0) := (kCe BK111.out 4).trans rfl; have hfz43_0 := bFz BK111.out 0; have hfz43_1 := bFz BK111.out 1; have hfz43_2 := bFz BK111.out 2; have hfz43_3 := bFz BK111.out 3; have hfz43_4 := bFz BK111.out 4; have hcz44_0 : w41.cell? ⟨gb109, 0, none⟩ = some (.int .i64 ((rd_T48 t101 x10_1).f0)) := (kCe BK109.out 0).trans rfl; have hcz44_1 : w41.cell? ⟨gb109, 1, none⟩ = some (.int .i64 ((rd_T48 t101 x10_1).f1)) := (kCe BK109.out 1).trans rfl; have hcz44_2 : w41.cell? ⟨gb109, 2, none⟩ = some (.int .i64 ((rd_T48 t101 x10_1).f2)) := (kCe BK109.out 2).trans rfl; have hfz44_0 := bFz BK109.out 0; have hfz44_1 := bFz BK109.out 1; have hfz44_2 := bFz BK109.out 2))
        repeat (go_quiet (first | ((with_reducible refine gate_dst (N := 12) rfl ?_); (try (refine gate_guard (by rfl) ?_; dsimp only)); refine box_event ?hg (N := 12) ?hd (cs := #[.int .i64 0, .string (⟨#[]⟩ : ByteArray), .string (⟨#[]⟩ : ByteArray), .int .i64 0, .int .i64 0]) (t := 50) ?hr ?_; (case hd => rfl); (case hg => rfl); (case hr => first | (go_simp; done) | (go_simp; rfl)); intro gb111 hg w41 hbox hb; have n0_ := aK (Kd.R_below (rX HO_8.out) hb); have n1_ := aK (kBe (g := gb109) (o := .cells #[.int .i64 ((rd_T48 t101 x10_1).f0), .int .i64 ((rd_T48 t101 x10_1).f1), .int .i64 ((rd_T48 t101 x10_1).f2)] 48 (0, 0)) (kX BK109.out) hb); have n2_ := aK (bSp (bX1 GE109.out) hb); have n3_ := aK (hbox); have n4_ := aK ((by rw [hg]; exact (bSz (bX1 GE109.out)) : w.heap.size ≤ gb111)); have n5_ := aK ((by rw [hg]; exact (bSz (bX1 GE109.out)) : w.heap.size ≤ gb111)); have n6_ := aK ((by rw [hg]; exact Nat.ne_of_lt (blk_lt (g := gb109) (o := .cells #[.int .i64 ((rd_T48 t101 x10_1).f0), .int .i64 ((rd_T48 t101 x10_1).f1), .int .i64 ((rd_T48 t101 x10_1).f2)] 48 (0, 0)) (kX BK109.out)) : gb109 ≠ gb111)); have n7_ := aK ((by rw [hg]; exact Nat.ne_of_gt (blk_lt (g := gb109) (o := .cells #[.int .i64 ((rd_T48 t101 x10_1).f0), .int .i64 ((rd_T48 t101 x10_1).f1), .int .i64 ((rd_T48 t101 x10_1).f2)] 48 (0, 0)) (kX BK109.out)) : gb111 ≠ gb109)); clear HO_8; clear BK109; clear HB; have HO_8 := n0_; have BK109 := n1_; have HB := n2_; have BK111 := n3_; have GW111 := n4_; have GE111 := n5_; have NB109_111 := n6_; have NB111_109 := n7_; clear n0_ n1_ n2_ n3_ n4_ n5_ n6_ n7_; clear hb hbox hg; have hnb42 := NB111_109.out; have hnc42 := NB109_111.out; have hcz43_0 : w41.cell? ⟨gb111, 0, none⟩ = some (.int .i64 0) := (kCe BK111.out 0).trans rfl; have hcz43_1 : w41.cell? ⟨gb111, 1, none⟩ = some (.string (⟨#[]⟩ : ByteArray)) := (kCe BK111.out 1).trans rfl; have hcz43_2 : w41.cell? ⟨gb111, 2, none⟩ = some (.string (⟨#[]⟩ : ByteArray)) := (kCe BK111.out 2).trans rfl; have hcz43_3 : w41.cell? ⟨gb111, 3, none⟩ = some (.int .i64 0) := (kCe BK111.out 3).trans rfl; have hcz43_4 : w41.cell? ⟨gb111, 4, none⟩ = some (.int .i64 0) := (kCe BK111.out 4).trans rfl; have hfz43_0 := bFz BK111.out 0; have hfz43_1 := bFz BK111.out 1; have hfz43_2 := bFz BK111.out 2; have hfz43_3 := bFz BK111.out 3; have hfz43_4 := bFz BK111.out 4; have hcz44_0 : w41.cell? ⟨gb109, 0, none⟩ = some (.int .i64 ((rd_T48 t101 x10_1).f0)) := (kCe BK109.out 0).trans rfl; have hcz44_1 : w41.cell? ⟨gb109, 1, none⟩ = some (.int .i64 ((rd_T48 t101 x10_1).f1)) := (kCe BK109.out 1).trans rfl; have hcz44_2 : w41.cell? ⟨gb109, 2, none⟩ = some (.int .i64 ((rd_T48 t101 x10_1).f2)) := (kCe BK109.out 2).trans rfl; have hfz44_0 := bFz BK109.out 0; have hfz44_1 := bFz BK109.out 1; have hfz44_2 := bFz BK109.out 2)); try go_wp2_with (first | ((with_reducible refine gate_dst (N := 12) rfl ?_); (try (refine gate_guard (by rfl) ?_; dsimp only)); refine box_event ?hg (N := 12) ?hd (cs := #[.int .i64 0, .string (⟨#[]⟩ : ByteArray), .string (⟨#[]⟩ : ByteArray), .int .i64 0, .int .i64 0]) (t := 50) ?hr ?_; (case hd => rfl); (case hg => rfl); (case hr => first | (go_simp; done) | (go_simp; rfl)); intro gb111 hg w41 hbox hb; have n0_ := aK (Kd.R_below (rX HO_8.out) hb); have n1_ := aK (kBe (g := gb109) (o := .cells #[.int .i64 ((rd_T48 t101 x10_1).f0), .int .i64 ((rd_T48 t101 x10_1).f1), .int .i64 ((rd_T48 t101 x10_1).f2)] 48 (0, 0)) (kX BK109.out) hb); have n2_ := aK (bSp (bX1 GE109.out) hb); have n3_ := aK (hbox); have n4_ := aK ((by rw [hg]; exact (bSz (bX1 GE109.out)) : w.heap.size ≤ gb111)); have n5_ := aK ((by rw [hg]; exact (bSz (bX1 GE109.out)) : w.heap.size ≤ gb111)); have n6_ := aK ((by rw [hg]; exact Nat.ne_of_lt (blk_lt (g := gb109) (o := .cells #[.int .i64 ((rd_T48 t101 x10_1).f0), .int .i64 ((rd_T48 t101 x10_1).f1), .int .i64 ((rd_T48 t101 x10_1).f2)] 48 (0, 0)) (kX BK109.out)) : gb109 ≠ gb111)); have n7_ := aK ((by rw [hg]; exact Nat.ne_of_gt (blk_lt (g := gb109) (o := .cells #[.int .i64 ((rd_T48 t101 x10_1).f0), .int .i64 ((rd_T48 t101 x10_1).f1), .int .i64 ((rd_T48 t101 x10_1).f2)] 48 (0, 0)) (kX BK109.out)) : gb111 ≠ gb109)); clear HO_8; clear BK109; clear HB; have HO_8 := n0_; have BK109 := n1_; have HB := n2_; have BK111 := n3_; have GW111 := n4_; have GE111 := n5_; have NB109_111 := n6_; have NB111_109 := n7_; clear n0_ n1_ n2_ n3_ n4_ n5_ n6_ n7_; clear hb hbox hg; have hnb42 := NB111_109.out; have hnc42 := NB109_111.out; have hcz43_0 : w41.cell? ⟨gb111, 0, none⟩ = some (.int .i64 0) := (kCe BK111.out 0).trans rfl; have hcz43_1 : w41.cell? ⟨gb111, 1, none⟩ = some (.string (⟨#[]⟩ : ByteArray)) := (kCe BK111.out 1).trans rfl; have hcz43_2 : w41.cell? ⟨gb111, 2, none⟩ = some (.string (⟨#[]⟩ : ByteArray)) := (kCe BK111.out 2).trans rfl; have hcz43_3 : w41.cell? ⟨gb111, 3, none⟩ = some (.int .i64 0) := (kCe BK111.out 3).trans rfl; have hcz43_4 : w41.cell? ⟨gb111, 4, none⟩ = some (.int .i64 0) := (kCe BK111.out 4).trans rfl; have hfz43_0 := bFz BK111.out 0; have hfz43_1 := bFz BK111.out 1; have hfz43_2 := bFz BK111.out 2; have hfz43_3 := bFz BK111.out 3; have hfz43_4 := bFz BK111.out 4; have hcz44_0 : w41.cell? ⟨gb109, 0, none⟩ = some (.int .i64 ((rd_T48 t101 x10_1).f0)) := (kCe BK109.out 0).trans rfl; have hcz44_1 : w41.cell? ⟨gb109, 1, none⟩ = some (.int .i64 ((rd_T48 t101 x10_1).f1)) := (kCe BK109.out 1).trans rfl; have hcz44_2 : w41.cell? ⟨gb109, 2, none⟩ = some (.int .i64 ((rd_T48 t101 x10_1).f2)) := (kCe BK109.out 2).trans rfl; have hfz44_0 := bFz BK109.out 0; have hfz44_1 := bFz BK109.out 1; have hfz44_2 := bFz BK109.out 2)))
        go_roundg kj8
        case measure => have := HK1.out; have := HJ8.out; omega
        case rel => exact ⟨(x9_1), (wrap64 (x10_1 + 1)), sX, sX, H', ⟨by have := HK1.out; have := HJ8.out; omega⟩, ⟨by (with_reducible repeat (first | apply Kd.R_alloc | apply Kd.R_drewN | apply Kd.R_drew)); exact Kd.R_mono (Kd.R_far (p := ⟨gb111, 4, none⟩) (Kd.R_far (p := ⟨gb111, 3, none⟩) (Kd.R_far (p := ⟨gb111, 2, none⟩) (Kd.R_far (p := ⟨gb111, 1, none⟩) (Kd.R_far (p := ⟨gb111, 0, none⟩) (Kd.R_types HO_8.out BK111.out (by decide)) (fun _ hk => hk.2) (.int .i64 ((rd_T50 l0 ((rd_T48 t101 x10_1).f0)).f0))) (fun _ hk => hk.2) (.string ((rd_T50 l0 ((rd_T48 t101 x10_1).f0)).f1))) (fun _ hk => hk.2) (.string ((rd_T50 l0 ((rd_T48 t101 x10_1).f0)).f2))) (fun _ hk => hk.2) (.int .i64 ((rd_T50 l0 ((rd_T48 t101 x10_1).f0)).f3))) (fun _ hk => hk.2) (.int .i64 ((rd_T50 l0 ((rd_T48 t101 x10_1).f0)).f4))) (fun _ hk => trivial)⟩, ⟨bX2 GE109.out GE111.out⟩⟩
       rw [if_pos c33] at H; obtain ⟨c33b0, c33b1⟩ := bY c33; clear c33; have H' := aK H; clear H; obtain ⟨hcz34_0, hcz34_1, hcz34_2⟩ := kC3 BK109.out; obtain ⟨hfz34_0, hfz34_1, hfz34_2⟩ := bF3 BK109.out; have p110 : 0 ≤ (((rd_T48 t101 x10_1).f0) : Int) := oA; have q110 : ((rd_T48 t101 x10_1).f0) < (l0.length : Int) := oA
       obtain ⟨ad110, e110, hx110_0, hx110_1, hx110_2, hx110_3, hx110_4⟩ := at_T50 HR0.out ((rd_T48 t101 x10_1).f0) p110 q110
       cases e110
       replace hx110_0 := (HB.out.cell (World.block_lt_of_cell? w _ hx110_0)).trans hx110_0
       replace hx110_1 := (HB.out.cell (World.block_lt_of_cell? w _ hx110_1)).trans hx110_1
       replace hx110_2 := (HB.out.cell (World.block_lt_of_cell? w _ hx110_2)).trans hx110_2
       replace hx110_3 := (HB.out.cell (World.block_lt_of_cell? w _ hx110_3)).trans hx110_3
       replace hx110_4 := (HB.out.cell (World.block_lt_of_cell? w _ hx110_4)).trans hx110_4
       replace p110 := eq_true p110; replace q110 := eq_true q110
       go_wp2_with (first | ((with_reducible refine gate_dst (N := 12) rfl ?_); (try (refine gate_guard (by rfl) ?_; dsimp only)); refine box_event ?hg (N := 12) ?hd (cs := #[.int .i64 0, .string (⟨#[]⟩ : ByteArray), .string (⟨#[]⟩ : ByteArray), .int .i64 0, .int .i64 0]) (t := 50) ?hr ?_; (case hd => rfl); (case hg => rfl); (case hr => first | (go_simp; done) | (go_simp; rfl)); intro gb111 hg w35 hbox hb; have n0_ := aK (Kd.R_below (rX HO_8.out) hb); have n1_ := aK (kBe (g := gb109) (o := .cells #[.int .i64 ((rd_T48 t101 x10_1).f0), .int .i64 ((rd_T48 t101 x10_1).f1), .int .i64 ((rd_T48 t101 x10_1).f2)] 48 (0, 0)) (kX BK109.out) hb); have n2_ := aK (bSp (bX1 GE109.out) hb); have n3_ := aK (hbox); have n4_ := aK ((by rw [hg]; exact (bSz (bX1 GE109.out)) : w.heap.size ≤ gb111)); have n5_ := aK ((by rw [hg]; exact (bSz (bX1 GE109.out)) : w.heap.size ≤ gb111)); have n6_ := aK ((by rw [hg]; exact Nat.ne_of_lt (blk_lt (g := gb109) (o := .cells #[.int .i64 ((rd_T48 t101 x10_1).f0), .int .i64 ((rd_T48 t101 x10_1).f1), .int .i64 ((rd_T48 t101 x10_1).f2)] 48 (0, 0)) (kX BK109.out)) : gb109 ≠ gb111)); have n7_ := aK ((by rw [hg]; exact Nat.ne_of_gt (blk_lt (g := gb109) (o := .cells #[.int .i64 ((rd_T48 t101 x10_1).f0), .int .i64 ((rd_T48 t101 x10_1).f1), .int .i64 ((rd_T48 t101 x10_1).f2)] 48 (0, 0)) (kX BK109.out)) : gb111 ≠ gb109)); clear HO_8; clear BK109; clear HB; have HO_8 := n0_; have BK109 := n1_; have HB := n2_; have BK111 := n3_; have GW111 := n4_; have GE111 := n5_; have NB109_111 := n6_; have NB111_109 := n7_; clear n0_ n1_ n2_ n3_ n4_ n5_ n6_ n7_; clear hb hbox hg; have hnb36 := NB111_109.out; have hnc36 := NB109_111.out; have hcz37_0 : w35.cell? ⟨gb111, 0, none⟩ = some (.int .i64 0) := (kCe BK111.out 0).trans rfl; have hcz37_1 : w35.cell? ⟨gb111, 1, none⟩ = some (.string (⟨#[]⟩ : ByteArray)) := (kCe BK111.out 1).trans rfl; have hcz37_2 : w35.cell? ⟨gb111, 2, none⟩ = some (.string (⟨#[]⟩ : ByteArray)) := (kCe BK111.out 2).trans rfl; have hcz37_3 : w35.cell? ⟨gb111, 3, none⟩ = some (.int .i64 0) := (kCe BK111.out 3).trans rfl; have hcz37_4 : w35.cell? ⟨gb111, 4, none⟩ = some (.int .i64 0) := (kCe BK111.out 4).trans rfl; have hfz37_0 := bFz BK111.out 0; have hfz37_1 := bFz BK111.out 1; have hfz37_2 := bFz BK111.out 2; have hfz37_3 := bFz BK111.out 3; have hfz37_4 := bFz BK111.out 4; have hcz38_0 : w35.cell? ⟨gb109, 0, none⟩ = some (.int .i64 ((rd_T48 t101 x10_1).f0)) := (kCe BK109.out 0).trans rfl; have hcz38_1 : w35.cell? ⟨gb109, 1, none⟩ = some (.int .i64 ((rd_T48 t101 x10_1).f1)) := (kCe BK109.out 1).trans rfl; have hcz38_2 : w35.cell? ⟨gb109, 2, none⟩ = some (.int .i64 ((rd_T48 t101 x10_1).f2)) := (kCe BK109.out 2).trans rfl; have hfz38_0 := bFz BK109.out 0; have hfz38_1 := bFz BK109.out 1; have hfz38_2 := bFz BK109.out 2))
       repeat (go_quiet (first | ((with_reducible refine gate_dst (N := 12) rfl ?_); (try (refine gate_guard (by rfl) ?_; dsimp only)); refine box_event ?hg (N := 12) ?hd (cs := #[.int .i64 0, .string (⟨#[]⟩ : ByteArray), .string (⟨#[]⟩ : ByteArray), .int .i64 0, .int .i64 0]) (t := 50) ?hr ?_; (case hd => rfl); (case hg => rfl); (case hr => first | (go_simp; done) | (go_simp; rfl)); intro gb111 hg w35 hbox hb; have n0_ := aK (Kd.R_below (rX HO_8.out) hb); have n1_ := aK (kBe (g := gb109) (o := .cells #[.int .i64 ((rd_T48 t101 x10_1).f0), .int .i64 ((rd_T48 t101 x10_1).f1), .int .i64 ((rd_T48 t101 x10_1).f2)] 48 (0, 0)) (kX BK109.out) hb); have n2_ := aK (bSp (bX1 GE109.out) hb); have n3_ := aK (hbox); have n4_ := aK ((by rw [hg]; exact (bSz (bX1 GE109.out)) : w.heap.size ≤ gb111)); have n5_ := aK ((by rw [hg]; exact (bSz (bX1 GE109.out)) : w.heap.size ≤ gb111)); have n6_ := aK ((by rw [hg]; exact Nat.ne_of_lt (blk_lt (g := gb109) (o := .cells #[.int .i64 ((rd_T48 t101 x10_1).f0), .int .i64 ((rd_T48 t101 x10_1).f1), .int .i64 ((rd_T48 t101 x10_1).f2)] 48 (0, 0)) (kX BK109.out)) : gb109 ≠ gb111)); have n7_ := aK ((by rw [hg]; exact Nat.ne_of_gt (blk_lt (g := gb109) (o := .cells #[.int .i64 ((rd_T48 t101 x10_1).f0), .int .i64 ((rd_T48 t101 x10_1).f1), .int .i64 ((rd_T48 t101 x10_1).f2)] 48 (0, 0)) (kX BK109.out)) : gb111 ≠ gb109)); clear HO_8; clear BK109; clear HB; have HO_8 := n0_; have BK109 := n1_; have HB := n2_; have BK111 := n3_; have GW111 := n4_; have GE111 := n5_; have NB109_111 := n6_; have NB111_109 := n7_; clear n0_ n1_ n2_ n3_ n4_ n5_ n6_ n7_; clear hb hbox hg; have hnb36 := NB111_109.out; have hnc36 := NB109_111.out; have hcz37_0 : w35.cell? ⟨gb111, 0, none⟩ = some (.int .i64 0) := (kCe BK111.out 0).trans rfl; have hcz37_1 : w35.cell? ⟨gb111, 1, none⟩ = some (.string (⟨#[]⟩ : ByteArray)) := (kCe BK111.out 1).trans rfl; have hcz37_2 : w35.cell? ⟨gb111, 2, none⟩ = some (.string (⟨#[]⟩ : ByteArray)) := (kCe BK111.out 2).trans rfl; have hcz37_3 : w35.cell? ⟨gb111, 3, none⟩ = some (.int .i64 0) := (kCe BK111.out 3).trans rfl; have hcz37_4 : w35.cell? ⟨gb111, 4, none⟩ = some (.int .i64 0) := (kCe BK111.out 4).trans rfl; have hfz37_0 := bFz BK111.out 0; have hfz37_1 := bFz BK111.out 1; have hfz37_2 := bFz BK111.out 2; have hfz37_3 := bFz BK111.out 3; have hfz37_4 := bFz BK111.out 4; have hcz38_0 : w35.cell? ⟨gb109, 0, none⟩ = some (.int .i64 ((rd_T48 t101 x10_1).f0)) := (kCe BK109.out 0).trans rfl; have hcz38_1 : w35.cell? ⟨gb109, 1, none⟩ = some (.int .i64 ((rd_T48 t101 x10_1).f1)) := (kCe BK109.out 1).trans rfl; have hcz38_2 : w35.cell? ⟨gb109, 2, none⟩ = some (.int .i64 ((rd_T48 t101 x10_1).f2)) := (kCe BK109.out 2).trans rfl; have hfz38_0 := bFz BK109.out 0; have hfz38_1 := bFz BK109.out 1; have hfz38_2 := bFz BK109.out 2)); try go_wp2_with (first | ((with_reducible refine gate_dst (N := 12) rfl ?_); (try (refine gate_guard (by rfl) ?_; dsimp only)); refine box_event ?hg (N := 12) ?hd (cs := #[.int .i64 0, .string (⟨#[]⟩ : ByteArray), .string (⟨#[]⟩ : ByteArray), .int .i64 0, .int .i64 0]) (t := 50) ?hr ?_; (case hd => rfl); (case hg => rfl); (case hr => first | (go_simp; done) | (go_simp; rfl)); intro gb111 hg w35 hbox hb; have n0_ := aK (Kd.R_below (rX HO_8.out) hb); have n1_ := aK (kBe (g := gb109) (o := .cells #[.int .i64 ((rd_T48 t101 x10_1).f0), .int .i64 ((rd_T48 t101 x10_1).f1), .int .i64 ((rd_T48 t101 x10_1).f2)] 48 (0, 0)) (kX BK109.out) hb); have n2_ := aK (bSp (bX1 GE109.out) hb); have n3_ := aK (hbox); have n4_ := aK ((by rw [hg]; exact (bSz (bX1 GE109.out)) : w.heap.size ≤ gb111)); have n5_ := aK ((by rw [hg]; exact (bSz (bX1 GE109.out)) : w.heap.size ≤ gb111)); have n6_ := aK ((by rw [hg]; exact Nat.ne_of_lt (blk_lt (g := gb109) (o := .cells #[.int .i64 ((rd_T48 t101 x10_1).f0), .int .i64 ((rd_T48 t101 x10_1).f1), .int .i64 ((rd_T48 t101 x10_1).f2)] 48 (0, 0)) (kX BK109.out)) : gb109 ≠ gb111)); have n7_ := aK ((by rw [hg]; exact Nat.ne_of_gt (blk_lt (g := gb109) (o := .cells #[.int .i64 ((rd_T48 t101 x10_1).f0), .int .i64 ((rd_T48 t101 x10_1).f1), .int .i64 ((rd_T48 t101 x10_1).f2)] 48 (0, 0)) (kX BK109.out)) : gb111 ≠ gb109)); clear HO_8; clear BK109; clear HB; have HO_8 := n0_; have BK109 := n1_; have HB := n2_; have BK111 := n3_; have GW111 := n4_; have GE111 := n5_; have NB109_111 := n6_; have NB111_109 := n7_; clear n0_ n1_ n2_ n3_ n4_ n5_ n6_ n7_; clear hb hbox hg; have hnb36 := NB111_109.out; have hnc36 := NB109_111.out; have hcz37_0 : w35.cell? ⟨gb111, 0, none⟩ = some (.int .i64 0) := (kCe BK111.out 0).trans rfl; have hcz37_1 : w35.cell? ⟨gb111, 1, none⟩ = some (.string (⟨#[]⟩ : ByteArray)) := (kCe BK111.out 1).trans rfl; have hcz37_2 : w35.cell? ⟨gb111, 2, none⟩ = some (.string (⟨#[]⟩ : ByteArray)) := (kCe BK111.out 2).trans rfl; have hcz37_3 : w35.cell? ⟨gb111, 3, none⟩ = some (.int .i64 0) := (kCe BK111.out 3).trans rfl; have hcz37_4 : w35.cell? ⟨gb111, 4, none⟩ = some (.int .i64 0) := (kCe BK111.out 4).trans rfl; have hfz37_0 := bFz BK111.out 0; have hfz37_1 := bFz BK111.out 1; have hfz37_2 := bFz BK111.out 2; have hfz37_3 := bFz BK111.out 3; have hfz37_4 := bFz BK111.out 4; have hcz38_0 : w35.cell? ⟨gb109, 0, none⟩ = some (.int .i64 ((rd_T48 t101 x10_1).f0)) := (kCe BK109.out 0).trans rfl; have hcz38_1 : w35.cell? ⟨gb109, 1, none⟩ = some (.int .i64 ((rd_T48 t101 x10_1).f1)) := (kCe BK109.out 1).trans rfl; have hcz38_2 : w35.cell? ⟨gb109, 2, none⟩ = some (.int .i64 ((rd_T48 t101 x10_1).f2)) := (kCe BK109.out 2).trans rfl; have hfz38_0 := bFz BK109.out 0; have hfz38_1 := bFz BK109.out 1; have hfz38_2 := bFz BK109.out 2)))
       go_roundg kj8
       case measure => have := HK1.out; have := HJ8.out; omega
       case rel => exact ⟨(x9_1), (wrap64 (x10_1 + 1)), sX, sX, H', ⟨by have := HK1.out; have := HJ8.out; omega⟩, ⟨by (with_reducible repeat (first | apply Kd.R_alloc | apply Kd.R_drewN | apply Kd.R_drew)); exact Kd.R_mono (Kd.R_far (p := ⟨gb111, 4, none⟩) (Kd.R_far (p := ⟨gb111, 3, none⟩) (Kd.R_far (p := ⟨gb111, 2, none⟩) (Kd.R_far (p := ⟨gb111, 1, none⟩) (Kd.R_far (p := ⟨gb111, 0, none⟩) (Kd.R_types HO_8.out BK111.out (by decide)) (fun _ hk => hk.2) (.int .i64 ((rd_T50 l0 ((rd_T48 t101 x10_1).f0)).f0))) (fun _ hk => hk.2) (.string ((rd_T50 l0 ((rd_T48 t101 x10_1).f0)).f1))) (fun _ hk => hk.2) (.string ((rd_T50 l0 ((rd_T48 t101 x10_1).f0)).f2))) (fun _ hk => hk.2) (.int .i64 ((rd_T50 l0 ((rd_T48 t101 x10_1).f0)).f3))) (fun _ hk => hk.2) (.int .i64 ((rd_T50 l0 ((rd_T48 t101 x10_1).f0)).f4))) (fun _ hk => trivial)⟩, ⟨bX2 GE109.out GE111.out⟩⟩
      rw [if_pos c27] at H; obtain ⟨c27b0, c27b1⟩ := bY c27; clear c27; have H' := aK H; clear H; obtain ⟨hcz28_0, hcz28_1, hcz28_2⟩ := kC3 BK109.out; obtain ⟨hfz28_0, hfz28_1, hfz28_2⟩ := bF3 BK109.out; have p110 : 0 ≤ (((rd_T48 t101 x10_1).f0) : Int) := oA; have q110 : ((rd_T48 t101 x10_1).f0) < (l0.length : Int) := oA
      obtain ⟨ad110, e110, hx110_0, hx110_1, hx110_2, hx110_3, hx110_4⟩ := at_T50 HR0.out ((rd_T48 t101 x10_1).f0) p110 q110
      cases e110
      replace hx110_0 := (HB.out.cell (World.block_lt_of_cell? w _ hx110_0)).trans hx110_0
      replace hx110_1 := (HB.out.cell (World.block_lt_of_cell? w _ hx110_1)).trans hx110_1
      replace hx110_2 := (HB.out.cell (World.block_lt_of_cell? w _ hx110_2)).trans hx110_2
      replace hx110_3 := (HB.out.cell (World.block_lt_of_cell? w _ hx110_3)).trans hx110_3
      replace hx110_4 := (HB.out.cell (World.block_lt_of_cell? w _ hx110_4)).trans hx110_4
      replace p110 := eq_true p110; replace q110 := eq_true q110
      go_wp2_with (first | ((with_reducible refine gate_dst (N := 12) rfl ?_); (try (refine gate_guard (by rfl) ?_; dsimp only)); refine box_event ?hg (N := 12) ?hd (cs := #[.int .i64 0, .string (⟨#[]⟩ : ByteArray), .string (⟨#[]⟩ : ByteArray), .int .i64 0, .int .i64 0]) (t := 50) ?hr ?_; (case hd => rfl); (case hg => rfl); (case hr => first | (go_simp; done) | (go_simp; rfl)); intro gb111 hg w29 hbox hb; have n0_ := aK (Kd.R_below (rX HO_8.out) hb); have n1_ := aK (kBe (g := gb109) (o := .cells #[.int .i64 ((rd_T48 t101 x10_1).f0), .int .i64 ((rd_T48 t101 x10_1).f1), .int .i64 ((rd_T48 t101 x10_1).f2)] 48 (0, 0)) (kX BK109.out) hb); have n2_ := aK (bSp (bX1 GE109.out) hb); have n3_ := aK (hbox); have n4_ := aK ((by rw [hg]; exact (bSz (bX1 GE109.out)) : w.heap.size ≤ gb111)); have n5_ := aK ((by rw [hg]; exact (bSz (bX1 GE109.out)) : w.heap.size ≤ gb111)); have n6_ := aK ((by rw [hg]; exact Nat.ne_of_lt (blk_lt (g := gb109) (o := .cells #[.int .i64 ((rd_T48 t101 x10_1).f0), .int .i64 ((rd_T48 t101 x10_1).f1), .int .i64 ((rd_T48 t101 x10_1).f2)] 48 (0, 0)) (kX BK109.out)) : gb109 ≠ gb111)); have n7_ := aK ((by rw [hg]; exact Nat.ne_of_gt (blk_lt (g := gb109) (o := .cells #[.int .i64 ((rd_T48 t101 x10_1).f0), .int .i64 ((rd_T48 t101 x10_1).f1), .int .i64 ((rd_T48 t101 x10_1).f2)] 48 (0, 0)) (kX BK109.out)) : gb111 ≠ gb109)); clear HO_8; clear BK109; clear HB; have HO_8 := n0_; have BK109 := n1_; have HB := n2_; have BK111 := n3_; have GW111 := n4_; have GE111 := n5_; have NB109_111 := n6_; have NB111_109 := n7_; clear n0_ n1_ n2_ n3_ n4_ n5_ n6_ n7_; clear hb hbox hg; have hnb30 := NB111_109.out; have hnc30 := NB109_111.out; have hcz31_0 : w29.cell? ⟨gb111, 0, none⟩ = some (.int .i64 0) := (kCe BK111.out 0).trans rfl; have hcz31_1 : w29.cell? ⟨gb111, 1, none⟩ = some (.string (⟨#[]⟩ : ByteArray)) := (kCe BK111.out 1).trans rfl; have hcz31_2 : w29.cell? ⟨gb111, 2, none⟩ = some (.string (⟨#[]⟩ : ByteArray)) := (kCe BK111.out 2).trans rfl; have hcz31_3 : w29.cell? ⟨gb111, 3, none⟩ = some (.int .i64 0) := (kCe BK111.out 3).trans rfl; have hcz31_4 : w29.cell? ⟨gb111, 4, none⟩ = some (.int .i64 0) := (kCe BK111.out 4).trans rfl; have hfz31_0 := bFz BK111.out 0; have hfz31_1 := bFz BK111.out 1; have hfz31_2 := bFz BK111.out 2; have hfz31_3 := bFz BK111.out 3; have hfz31_4 := bFz BK111.out 4; have hcz32_0 : w29.cell? ⟨gb109, 0, none⟩ = some (.int .i64 ((rd_T48 t101 x10_1).f0)) := (kCe BK109.out 0).trans rfl; have hcz32_1 : w29.cell? ⟨gb109, 1, none⟩ = some (.int .i64 ((rd_T48 t101 x10_1).f1)) := (kCe BK109.out 1).trans rfl; have hcz32_2 : w29.cell? ⟨gb109, 2, none⟩ = some (.int .i64 ((rd_T48 t101 x10_1).f2)) := (kCe BK109.out 2).trans rfl; have hfz32_0 := bFz BK109.out 0; have hfz32_1 := bFz BK109.out 1; have hfz32_2 := bFz BK109.out 2))
      repeat (go_quiet (first | ((with_reducible refine gate_dst (N := 12) rfl ?_); (try (refine gate_guard (by rfl) ?_; dsimp only)); refine box_event ?hg (N := 12) ?hd (cs := #[.int .i64 0, .string (⟨#[]⟩ : ByteArray), .string (⟨#[]⟩ : ByteArray), .int .i64 0, .int .i64 0]) (t := 50) ?hr ?_; (case hd => rfl); (case hg => rfl); (case hr => first | (go_simp; done) | (go_simp; rfl)); intro gb111 hg w29 hbox hb; have n0_ := aK (Kd.R_below (rX HO_8.out) hb); have n1_ := aK (kBe (g := gb109) (o := .cells #[.int .i64 ((rd_T48 t101 x10_1).f0), .int .i64 ((rd_T48 t101 x10_1).f1), .int .i64 ((rd_T48 t101 x10_1).f2)] 48 (0, 0)) (kX BK109.out) hb); have n2_ := aK (bSp (bX1 GE109.out) hb); have n3_ := aK (hbox); have n4_ := aK ((by rw [hg]; exact (bSz (bX1 GE109.out)) : w.heap.size ≤ gb111)); have n5_ := aK ((by rw [hg]; exact (bSz (bX1 GE109.out)) : w.heap.size ≤ gb111)); have n6_ := aK ((by rw [hg]; exact Nat.ne_of_lt (blk_lt (g := gb109) (o := .cells #[.int .i64 ((rd_T48 t101 x10_1).f0), .int .i64 ((rd_T48 t101 x10_1).f1), .int .i64 ((rd_T48 t101 x10_1).f2)] 48 (0, 0)) (kX BK109.out)) : gb109 ≠ gb111)); have n7_ := aK ((by rw [hg]; exact Nat.ne_of_gt (blk_lt (g := gb109) (o := .cells #[.int .i64 ((rd_T48 t101 x10_1).f0), .int .i64 ((rd_T48 t101 x10_1).f1), .int .i64 ((rd_T48 t101 x10_1).f2)] 48 (0, 0)) (kX BK109.out)) : gb111 ≠ gb109)); clear HO_8; clear BK109; clear HB; have HO_8 := n0_; have BK109 := n1_; have HB := n2_; have BK111 := n3_; have GW111 := n4_; have GE111 := n5_; have NB109_111 := n6_; have NB111_109 := n7_; clear n0_ n1_ n2_ n3_ n4_ n5_ n6_ n7_; clear hb hbox hg; have hnb30 := NB111_109.out; have hnc30 := NB109_111.out; have hcz31_0 : w29.cell? ⟨gb111, 0, none⟩ = some (.int .i64 0) := (kCe BK111.out 0).trans rfl; have hcz31_1 : w29.cell? ⟨gb111, 1, none⟩ = some (.string (⟨#[]⟩ : ByteArray)) := (kCe BK111.out 1).trans rfl; have hcz31_2 : w29.cell? ⟨gb111, 2, none⟩ = some (.string (⟨#[]⟩ : ByteArray)) := (kCe BK111.out 2).trans rfl; have hcz31_3 : w29.cell? ⟨gb111, 3, none⟩ = some (.int .i64 0) := (kCe BK111.out 3).trans rfl; have hcz31_4 : w29.cell? ⟨gb111, 4, none⟩ = some (.int .i64 0) := (kCe BK111.out 4).trans rfl; have hfz31_0 := bFz BK111.out 0; have hfz31_1 := bFz BK111.out 1; have hfz31_2 := bFz BK111.out 2; have hfz31_3 := bFz BK111.out 3; have hfz31_4 := bFz BK111.out 4; have hcz32_0 : w29.cell? ⟨gb109, 0, none⟩ = some (.int .i64 ((rd_T48 t101 x10_1).f0)) := (kCe BK109.out 0).trans rfl; have hcz32_1 : w29.cell? ⟨gb109, 1, none⟩ = some (.int .i64 ((rd_T48 t101 x10_1).f1)) := (kCe BK109.out 1).trans rfl; have hcz32_2 : w29.cell? ⟨gb109, 2, none⟩ = some (.int .i64 ((rd_T48 t101 x10_1).f2)) := (kCe BK109.out 2).trans rfl; have hfz32_0 := bFz BK109.out 0; have hfz32_1 := bFz BK109.out 1; have hfz32_2 := bFz BK109.out 2)); try go_wp2_with (first | ((with_reducible refine gate_dst (N := 12) rfl ?_); (try (refine gate_guard (by rfl) ?_; dsimp only)); refine box_event ?hg (N := 12) ?hd (cs := #[.int .i64 0, .string (⟨#[]⟩ : ByteArray), .string (⟨#[]⟩ : ByteArray), .int .i64 0, .int .i64 0]) (t := 50) ?hr ?_; (case hd => rfl); (case hg => rfl); (case hr => first | (go_simp; done) | (go_simp; rfl)); intro gb111 hg w29 hbox hb; have n0_ := aK (Kd.R_below (rX HO_8.out) hb); have n1_ := aK (kBe (g := gb109) (o := .cells #[.int .i64 ((rd_T48 t101 x10_1).f0), .int .i64 ((rd_T48 t101 x10_1).f1), .int .i64 ((rd_T48 t101 x10_1).f2)] 48 (0, 0)) (kX BK109.out) hb); have n2_ := aK (bSp (bX1 GE109.out) hb); have n3_ := aK (hbox); have n4_ := aK ((by rw [hg]; exact (bSz (bX1 GE109.out)) : w.heap.size ≤ gb111)); have n5_ := aK ((by rw [hg]; exact (bSz (bX1 GE109.out)) : w.heap.size ≤ gb111)); have n6_ := aK ((by rw [hg]; exact Nat.ne_of_lt (blk_lt (g := gb109) (o := .cells #[.int .i64 ((rd_T48 t101 x10_1).f0), .int .i64 ((rd_T48 t101 x10_1).f1), .int .i64 ((rd_T48 t101 x10_1).f2)] 48 (0, 0)) (kX BK109.out)) : gb109 ≠ gb111)); have n7_ := aK ((by rw [hg]; exact Nat.ne_of_gt (blk_lt (g := gb109) (o := .cells #[.int .i64 ((rd_T48 t101 x10_1).f0), .int .i64 ((rd_T48 t101 x10_1).f1), .int .i64 ((rd_T48 t101 x10_1).f2)] 48 (0, 0)) (kX BK109.out)) : gb111 ≠ gb109)); clear HO_8; clear BK109; clear HB; have HO_8 := n0_; have BK109 := n1_; have HB := n2_; have BK111 := n3_; have GW111 := n4_; have GE111 := n5_; have NB109_111 := n6_; have NB111_109 := n7_; clear n0_ n1_ n2_ n3_ n4_ n5_ n6_ n7_; clear hb hbox hg; have hnb30 := NB111_109.out; have hnc30 := NB109_111.out; have hcz31_0 : w29.cell? ⟨gb111, 0, none⟩ = some (.int .i64 0) := (kCe BK111.out 0).trans rfl; have hcz31_1 : w29.cell? ⟨gb111, 1, none⟩ = some (.string (⟨#[]⟩ : ByteArray)) := (kCe BK111.out 1).trans rfl; have hcz31_2 : w29.cell? ⟨gb111, 2, none⟩ = some (.string (⟨#[]⟩ : ByteArray)) := (kCe BK111.out 2).trans rfl; have hcz31_3 : w29.cell? ⟨gb111, 3, none⟩ = some (.int .i64 0) := (kCe BK111.out 3).trans rfl; have hcz31_4 : w29.cell? ⟨gb111, 4, none⟩ = some (.int .i64 0) := (kCe BK111.out 4).trans rfl; have hfz31_0 := bFz BK111.out 0; have hfz31_1 := bFz BK111.out 1; have hfz31_2 := bFz BK111.out 2; have hfz31_3 := bFz BK111.out 3; have hfz31_4 := bFz BK111.out 4; have hcz32_0 : w29.cell? ⟨gb109, 0, none⟩ = some (.int .i64 ((rd_T48 t101 x10_1).f0)) := (kCe BK109.out 0).trans rfl; have hcz32_1 : w29.cell? ⟨gb109, 1, none⟩ = some (.int .i64 ((rd_T48 t101 x10_1).f1)) := (kCe BK109.out 1).trans rfl; have hcz32_2 : w29.cell? ⟨gb109, 2, none⟩ = some (.int .i64 ((rd_T48 t101 x10_1).f2)) := (kCe BK109.out 2).trans rfl; have hfz32_0 := bFz BK109.out 0; have hfz32_1 := bFz BK109.out 1; have hfz32_2 := bFz BK109.out 2)))
      go_roundg kj8
      case measure => have := HK1.out; have := HJ8.out; omega
      case rel => exact ⟨(x9_1), (wrap64 (x10_1 + 1)), sX, sX, H', ⟨by have := HK1.out; have := HJ8.out; omega⟩, ⟨by (with_reducible repeat (first | apply Kd.R_alloc | apply Kd.R_drewN | apply Kd.R_drew)); exact Kd.R_mono (Kd.R_far (p := ⟨gb111, 4, none⟩) (Kd.R_far (p := ⟨gb111, 3, none⟩) (Kd.R_far (p := ⟨gb111, 2, none⟩) (Kd.R_far (p := ⟨gb111, 1, none⟩) (Kd.R_far (p := ⟨gb111, 0, none⟩) (Kd.R_types HO_8.out BK111.out (by decide)) (fun _ hk => hk.2) (.int .i64 ((rd_T50 l0 ((rd_T48 t101 x10_1).f0)).f0))) (fun _ hk => hk.2) (.string ((rd_T50 l0 ((rd_T48 t101 x10_1).f0)).f1))) (fun _ hk => hk.2) (.string ((rd_T50 l0 ((rd_T48 t101 x10_1).f0)).f2))) (fun _ hk => hk.2) (.int .i64 ((rd_T50 l0 ((rd_T48 t101 x10_1).f0)).f3))) (fun _ hk => hk.2) (.int .i64 ((rd_T50 l0 ((rd_T48 t101 x10_1).f0)).f4))) (fun _ hk => trivial)⟩, ⟨bX2 GE109.out GE111.out⟩⟩
     subst c22
     have H1 : (some false) = some r := by rw [if_pos rfl] at H; exact H
     clear H
     have H := H1
     clear H1
     exact absurd ((oI H).trans hT.out) (by decide)
end Go.Proofs.YtbpbniemjjhecaaGreat.PChk
