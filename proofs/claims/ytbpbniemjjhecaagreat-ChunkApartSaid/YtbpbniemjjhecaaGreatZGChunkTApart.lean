import Derived.Test.YtbpbniemjjhecaaGreatZPChk0
import Derived.Test.YtbpbniemjjhecaaGreatZGChunkAw
import Derived.Test.YtbpbniemjjhecaaGreatZPChk23
import Derived.Test.YtbpbniemjjhecaaGreatProg
import Derived.Below
import Derived.Deep.Draws
import Derived.Deep.AppendLies
import Derived.Maps.AppendAt
import Derived.OwnWalk
import Derived.Laws.BytesArg
import Derived.Laws.MakeOwn
import Derived.Laws.OwnMore
import Derived.Deep.OwnRows
import Derived.Tactics
import Derived.Lib.ConvBytes
import Derived.Laws.Slices
import Derived.WalkKit
import Derived.KernelRfl
import Derived.RowKit3
import Derived.Deep.LoopGhost
import Derived.Deep.QuietTactic
import Derived.BigQuiet
import Derived.WideLaws
import Derived.Deep.DeepCutAuto
import Derived.Deep.CutBlock
import Derived.Deep.RegionHeld3
import Derived.Laws.Rows
import Derived.Lib.AppendStr
import Derived.ArgAppend
import Derived.Laws.IdiomCopy
import Derived.OrdersHeld
import Derived.Laws.BitsLemmas
import Derived.RowKit
import Derived.Test.YtbpbniemjjhecaaGreatZGCharsCase
import Derived.Test.YtbpbniemjjhecaaGreatZPChk24
import Derived.Test.YtbpbniemjjhecaaGreatZGChunk3
import Derived.Test.YtbpbniemjjhecaaGreatZWSized
namespace Go.Proofs.YtbpbniemjjhecaaGreat.PChk
open Go.RowKit Go.Proofs.YtbpbniemjjhecaaGreat.G Go.Proofs.YtbpbniemjjhecaaGreat.PChk Go.Proofs.YtbpbniemjjhecaaGreatW.PrintWords Go.Proofs.YtbpbniemjjhecaaGreatW.PrintLast Go.Proofs.YtbpbniemjjhecaaGreatW.PrintMore
attribute [local go_sem] max2_int min2_int max_two min_two max_three min_three max_four min_four
set_option linter.unusedVariables false
set_option linter.unusedSimpArgs false
set_option maxHeartbeats 8000000
set_option maxRecDepth 100000
def pApart.j0 : Nat → List (S42) → List (S42) → Tr → List (S48) → List (S48) → Bool → Option (Bool)
 | 0, _, _, _, _, _, _ => none
 | k + 1, x1, x2, x7, x10, x12, x53 => if x53 = true then ((w12_awake.f).bind fun t109 => (some t109)) else ((chunk_Cells.f x7 x10).bind fun t110 => ((chunk_Cells.f x7 x12).bind fun t111 => ((r12_Toks.f k x1 x2).bind fun t112 => (if ((t110.toList == t111.toList) == t112) = true then ((w12_awake.f).bind fun t113 => (some t113)) else (some false)))))
def pApart.f (k : Nat) (l0 : List (S50)) (l1 : List (S42)) (l2 : List (S42)) (a3 : Tr) : Option (Bool) := (chunk_Of.f a3 l1).bind fun bt101 => ((chunk_Of.f a3 l2).bind fun bt105 => (if bt101.2 = 0 then (pApart.j0 k l1 l2 a3 bt101.1 bt105.1 (bt105.2 != 0)) else (pApart.j0 k l1 l2 a3 bt101.1 bt105.1 true)))
theorem pApart.calls (k : Nat) (A0 : Option Addr) (c0 : Nat) (l0 : List Rl) (A1 : Option Addr) (c1 : Nat) (l1 : List S42) (A2 : Option Addr) (c2 : Nat) (l2 : List S42) (r : Bool) (w00 : World) (hr0 : Kd.C k50 w00 A0 l0.length l0) (hc0 : l0.length ≤ c0) (hr1 : Kd.C k42 w00 A1 l1.length l1) (hc1 : l1.length ≤ c1) (hr2 : Kd.C k42 w00 A2 l2.length l2) (hc2 : l2.length ≤ c2) (hL : long12.f 500 l0 = some false) (hs1 : l1.length ≤ 40) (hs2 : l2.length ≤ 40) (hn : trie_New.f l0 = some (some (some l0), 0, 0)) (hf : ∀ v, pApart.f k l0 l1 l2 ⟨v, some (some l0)⟩ = some r) (hT0 : r = true) :
  Calls Tryz.prog 6 #[.slice A0 l0.length c0, .slice A1 l1.length c1, .slice A2 l2.length c2] w00 fun e w' => e = .returned (.bool r) ∧ Below w00.heap.size w00 w' := by
 have h1 := long12.calls 500 A0 c0 l0 false w00 hr0 hc0 hL
 have HR := Lib.hid hr0
 have HF := aK hf
 have HN := Lib.hid hn
 have HC := Lib.hid hc0
 have HRR1 := Lib.hid hr1
 have HCC1 := Lib.hid hc1
 have h61 : decide ((l1.length : Int) > 40) = false := decide_eq_false (by omega)
 have h71 : decide ((40 : Int) < (l1.length : Int)) = false := decide_eq_false (by omega)
 have HRR2 := Lib.hid hr2
 have HCC2 := Lib.hid hc2
 have h62 : decide ((l2.length : Int) > 40) = false := decide_eq_false (by omega)
 have h72 : decide ((40 : Int) < (l2.length : Int)) = false := decide_eq_false (by omega)
 clear hf hn hr0 hL hc0 hr1 hr2 hc1 hs1 hc2 hs2
 go_enter Tryz.func6, Tryz.ntmps6
 try dsimp only [List.append]
 go_wp2_with fail
 go_at_call 7
 refine h1.mono ?_
 rintro e w1 ⟨rfl, b1⟩
 have HB1 := Lib.hid b1.below
 clear b1 h1
 go_wp2_with fail
 go_at_call 12
 refine (trie_New.calls A0 c0 l0 (some (some l0)) 0 0 w1 (Kd.C_below HR.out HB1.out) HC.out HN.out).mono ?_
 rintro e w ⟨v, rfl, ht, b2⟩
 have HT2 := Lib.hid ht
 have HB2 := Lib.hid (bSp HB1.out b2)
 clear b2 ht
 go_upto_region 6 with (fail)
 have HB00 := aK HB2.out
 obtain ⟨a3, ea⟩ : ∃ a_ : Tr, a_ = ⟨v, some (some l0)⟩ := ⟨_, rfl⟩
 have hT3 : Tr.Is w a3 := by rw [ea]; exact HT2.out
 have h := HF.out v
 rw [← ea] at h
 obtain rfl : v = a3.v := by rw [ea]
 have hr0 := Kd.C_below HR.out HB2.out
 have hc0 := HC.out
 have hr1 := Kd.C_below HRR1.out HB2.out
 have hc1 := HCC1.out
 have hr2 := Kd.C_below HRR2.out HB2.out
 have hc2 := HCC2.out
 clear HT2 HC HF HB2 HR HN ea HRR1 HCC1 h61 h71 HRR2 HCC2 h62 h72 HB1
 have HR0 := aK hr0
 have HC0 := aK hc0
 clear hr0 hc0
 have HR1 := aK hr1
 have HC1 := aK hc1
 clear hr1 hc1
 have HR2 := aK hr2
 have HC2 := aK hc2
 clear hr2 hc2
 have HT3 := aK hT3
 clear hT3
 have HB := aK (Below.refl w.heap.size w)
 have H : ((chunk_Of.f a3 l1).bind fun bt101 => ((chunk_Of.f a3 l2).bind fun bt105 => (if bt101.2 = 0 then (pApart.j0 k l1 l2 a3 bt101.1 bt105.1 (bt105.2 != 0)) else (pApart.j0 k l1 l2 a3 bt101.1 bt105.1 true)))) = some r := h
 clear h
 have hT := aK hT0
 clear hT0
 obtain ⟨⟨t101, t102⟩, A5, H⟩ := oC H
 try dsimp only at H
 obtain ⟨⟨t105, t106⟩, A6, H⟩ := oC H
 try dsimp only at H
 have HC7 := aK H
 clear H
 go_upto_region 8 with (first | ((with_reducible refine gate_callee (f := 13) rfl ?_); refine gO 39 Tryz.func13 #[a3.v, .slice A1 l1.length c1] ?_; (with_reducible refine (chunk_Of.calls a3 _ _ l1 t101 t102 _ ?side1 ?side2 ?side3 A5.out).mono ?_); (case side1 => exact Tr.Is.below HT3.out bX); (case side2 => repeat (first | exact HR1.out | (with_reducible refine Kd.C_alloc ?_ _) | (with_reducible refine Kd.C_drewN ?_ _) | (with_reducible refine Kd.C_drew ?_))); (case side3 => exact HC1.out); rintro e w8 ⟨v103, rfl, ho0, hb⟩; refine ⟨_, rfl, ?_⟩; have HO104 := aK (Kd.R_lower ho0 (bSz bX)); replace HB := aK (bSp bX hb); clear hb; clear ho0) | ((with_reducible refine gate_callee (f := 13) rfl ?_); refine gO 45 Tryz.func13 #[a3.v, .slice A2 l2.length c2] ?_; (with_reducible refine (chunk_Of.calls a3 _ _ l2 t105 t106 _ ?side1 ?side2 ?side3 A6.out).mono ?_); (case side1 => exact Tr.Is.below HT3.out bX); (case side2 => exact cX HR2.out); (case side3 => exact HC2.out); rintro e w9 ⟨v107, rfl, ho0, hb⟩; refine ⟨_, rfl, ?_⟩; have HO108 := aK (Kd.R_lower (Kd.R_new' ho0 (Kd.R_lt (rX HO104.out))) (bSz bX)); replace HO104 := aK (Kd.R_elder' (rX HO104.out) (Kd.R_base ho0) hb); replace HB := aK (bSp bX hb); clear hb; clear ho0))
 (try simp only [Act.put, qSa, qS0, qS1])
 go_cut [53] (fun v53 wc => ∃ (kq : Nat) (x53_6 : Bool), v53 = .bool x53_6 ∧ Aside0 (pApart.j0 kq l1 l2 a3 t101 t105 x53_6 = some r) ∧ Aside0 (kq ≤ k) ∧ Aside0 (Kd.R k48 48 wc w.heap.size (fun k_ => some k_ ≠ (v107 : Value).ownBlock) v103 t101) ∧ Aside0 (Kd.R k48 48 wc w.heap.size (fun k_ => some k_ ≠ (v103 : Value).ownBlock) v107 t105) ∧ Aside0 (Below w.heap.size w wc))
 case first =>
  have H := HC7.out
  clear HC7
  by_cases c10 : t102 = 0
  rotate_left
  ·
   rw [if_neg c10] at H
   obtain ⟨c10b0, c10b1⟩ := bN c10
   (first | rw [c10b0] | (simp only [i64_w, i32_w]; rw [c10b0]) | skip)
   have H' := aK H
   clear H
   go_wp2
   go_meet
   case rel => exact ⟨_, (true), sX, H', ⟨by first | omega | exact Nat.le_refl _⟩, ⟨by (with_reducible repeat (first | apply Kd.R_alloc | apply Kd.R_drewN | apply Kd.R_drew)); exact Kd.R_mono HO104.out (fun _ hk => hk.2)⟩, ⟨by (with_reducible repeat (first | apply Kd.R_alloc | apply Kd.R_drewN | apply Kd.R_drew)); exact Kd.R_mono HO108.out (fun _ hk => hk.2)⟩, ⟨bX⟩⟩
  rw [if_pos c10] at H
  obtain ⟨c10b0, c10b1⟩ := bY c10
  clear c10
  (first | rw [c10b0] | (simp only [i64_w, i32_w]; rw [c10b0]) | skip)
  have H' := aK H
  clear H
  go_wp2
  go_meet
  case rel => exact ⟨_, ((t106 != 0)), sX, H', ⟨by first | omega | exact Nat.le_refl _⟩, ⟨by (with_reducible repeat (first | apply Kd.R_alloc | apply Kd.R_drewN | apply Kd.R_drew)); exact Kd.R_mono HO104.out (fun _ hk => hk.2)⟩, ⟨by (with_reducible repeat (first | apply Kd.R_alloc | apply Kd.R_drewN | apply Kd.R_drew)); exact Kd.R_mono HO108.out (fun _ hk => hk.2)⟩, ⟨bX⟩⟩
 case rest =>
  clear HC7
  try clear c1
  try clear c2
  try clear p2
  try clear c6
  try clear c10
  try clear c10b0
  try clear c10b1
  obtain ⟨kq, x53_6, rfl, HA, HJ6, HO_10, HO_12, HB⟩ := hcut
  cases kq with
  | zero => exact absurd HA.out (by simp [pApart.j0])
  | succ kj6 =>
   have H := HA.out
   clear HA
   simp only [pApart.j0] at H
   by_cases c11 : x53_6 = true
   rotate_left
   ·
    replace c11 := Bool.eq_false_iff.mpr c11
    subst c11
    have H1 : ((chunk_Cells.f a3 t101).bind fun t110 => ((chunk_Cells.f a3 t105).bind fun t111 => ((r12_Toks.f kj6 l1 l2).bind fun t112 => (if ((t110.toList == t111.toList) == t112) = true then ((w12_awake.f).bind fun t113 => (some t113)) else (some false))))) = some r := by rw [if_neg (show ¬ (false = true) by decide)] at H; exact H
    clear H
    have H := H1
    clear H1
    obtain ⟨t110, A14, H⟩ := oC H
    try dsimp only at H
    obtain ⟨t111, A15, H⟩ := oC H
    try dsimp only at H
    obtain ⟨t112, A16, H⟩ := oC H
    try dsimp only at H
    by_cases c17 : ((t110.toList == t111.toList) == t112) = true
    rotate_left
    ·
     rw [if_neg c17] at H
     have c17b0 : ((t110.toList == t111.toList) == t112) = false := by simpa using c17
     (try (have c17b1 : decide ((t110.toList == t111.toList) = t112) = false := by simpa using c17))
     (try (have c17b2 : ((t110.toList == t111.toList) == t112) = false := by simpa using c17))
     (try (have c17b3 : ¬ ((t110.toList == t111.toList) = t112) := by simpa using c17))
     clear c17
     exact absurd ((oI H).trans hT.out) (by decide)
    rw [if_pos c17] at H
    have c17b0 : ((t110.toList == t111.toList) == t112) = true := c17
    (try (have c17b1 : decide ((t110.toList == t111.toList) = t112) = true := by simpa using c17))
    (try (have c17b2 : ((t110.toList == t111.toList) == t112) = true := by simpa using c17))
    clear c17
    replace H := oB H
    obtain ⟨t113, A180, H⟩ := H
    replace H : (some t113) = some r := H
    have A18 := aK A180
    clear A180
    obtain rfl := oI H
    obtain ⟨Ao19, co19, eo19⟩ := Kd.R_slice HO_10.out
    subst eo19
    go_wp2_with (first | ((with_reducible refine gate_callee (f := 20) rfl ?_); refine gO 57 Tryz.func20 #[a3.v, .slice Ao19 t101.length co19] ?_; (with_reducible refine (chunk_Cells.calls a3 _ _ t101 t110 _ ?side1 ?side2 ?side3 A14.out).mono ?_); (case side1 => exact Tr.Is.below HT3.out bX); (case side2 => repeat (first | exact (Kd.R_reads' HO_10.out).2.2 | (with_reducible refine Kd.C_alloc ?_ _) | (with_reducible refine Kd.C_drewN ?_ _) | (with_reducible refine Kd.C_drew ?_))); (case side3 => exact (Kd.R_reads' HO_10.out).2.1); rintro e w20 ⟨rfl, hb⟩; refine ⟨_, rfl, ?_⟩; replace HO_10 := aK (Kd.R_below (rX HO_10.out) hb); replace HO_12 := aK (Kd.R_below (rX HO_12.out) hb); replace HB := aK (bSp bX hb); clear hb; obtain ⟨Ao21, co21, eo21⟩ := Kd.R_slice HO_12.out; subst eo21) | ((with_reducible refine gate_callee (f := 20) rfl ?_); refine gO 60 Tryz.func20 #[a3.v, .slice Ao21 t105.length co21] ?_; (with_reducible refine (chunk_Cells.calls a3 _ _ t105 t111 _ ?side1 ?side2 ?side3 A15.out).mono ?_); (case side1 => exact Tr.Is.below HT3.out bX); (case side2 => repeat (first | exact (Kd.R_reads' HO_12.out).2.2 | (with_reducible refine Kd.C_alloc ?_ _) | (with_reducible refine Kd.C_drewN ?_ _) | (with_reducible refine Kd.C_drew ?_))); (case side3 => exact (Kd.R_reads' HO_12.out).2.1); rintro e w22 ⟨rfl, hb⟩; refine ⟨_, rfl, ?_⟩; replace HO_10 := aK (Kd.R_below (rX HO_10.out) hb); replace HO_12 := aK (Kd.R_below (rX HO_12.out) hb); replace HB := aK (bSp bX hb); clear hb) | ((with_reducible refine gate_callee (f := 23) rfl ?_); refine gO 64 Tryz.func23 #[.slice A1 l1.length c1, .slice A2 l2.length c2] ?_; (with_reducible refine (r12_Toks.calls kj6 _ _ l1 _ _ l2 t112 _ ?side1 ?side2 ?side3 ?side4 A16.out).mono ?_); (case side1 => exact cX HR1.out); (case side2 => exact HC1.out); (case side3 => exact cX HR2.out); (case side4 => exact HC2.out); rintro e w' ⟨rfl, ⟨nd, rfl⟩⟩; refine ⟨_, rfl, ?_⟩) | (go_at_call 8; (with_reducible refine (w12_awake.calls  t113 _ A18.out).mono ?_); rintro e w23 ⟨rfl, hb⟩; replace HO_10 := aK (Kd.R_below (rX HO_10.out) hb); replace HO_12 := aK (Kd.R_below (rX HO_12.out) hb); replace HB := aK (bSp bX hb); clear hb))
    go_ret
    exact ⟨eX, bSp HB00.out bX⟩
   subst c11
   have H1 : ((w12_awake.f).bind fun t109 => (some t109)) = some r := by rw [if_pos rfl] at H; exact H
   clear H
   have H := H1
   clear H1
   replace H := oB H
   obtain ⟨t109, A120, H⟩ := H
   replace H : (some t109) = some r := H
   have A12 := aK A120
   clear A120
   obtain rfl := oI H
   go_wp2_with (first | ((with_reducible refine gate_callee (f := 8) rfl ?_); refine gO 54 Tryz.func8 #[] ?_; (with_reducible refine (w12_awake.calls  t109 _ A12.out).mono ?_); rintro e w13 ⟨rfl, hb⟩; refine ⟨_, rfl, ?_⟩; replace HO_10 := aK (Kd.R_below (rX HO_10.out) hb); replace HO_12 := aK (Kd.R_below (rX HO_12.out) hb); replace HB := aK (bSp bX hb); clear hb))
   go_ret
   exact ⟨eX, bSp HB00.out bX⟩
end Go.Proofs.YtbpbniemjjhecaaGreat.PChk
