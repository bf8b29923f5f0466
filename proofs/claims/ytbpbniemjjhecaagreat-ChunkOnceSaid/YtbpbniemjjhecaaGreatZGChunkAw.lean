import Derived.Test.YtbpbniemjjhecaaGreatZPChk0
import Derived.Test.YtbpbniemjjhecaaGreatProg
import Derived.Below
import Derived.Deep.Draws
import Derived.Deep.AppendLies
import Derived.Maps.AppendAt
import Derived.OwnWalk
import Derived.Laws.BytesArg
import Derived.Laws.MakeOwn
import Derived.Laws.OwnMore
import Derived.Deep.OwnRows
import Derived.Tactics
import Derived.Lib.ConvBytes
import Derived.Laws.Slices
import Derived.WalkKit
import Derived.KernelRfl
import Derived.RowKit3
import Derived.Deep.LoopGhost
import Derived.Deep.QuietTactic
import Derived.BigQuiet
import Derived.WideLaws
import Derived.Deep.DeepCutAuto
import Derived.Deep.CutBlock
import Derived.Deep.RegionHeld3
import Derived.Laws.Rows
import Derived.Lib.AppendStr
import Derived.ArgAppend
import Derived.Laws.IdiomCopy
import Derived.OrdersHeld
import Derived.Laws.BitsLemmas
import Derived.RowKit
import Derived.Test.YtbpbniemjjhecaaGreatZGOpChunk
import Derived.Test.YtbpbniemjjhecaaGreatZPChk24
import Derived.Test.YtbpbniemjjhecaaGreatZWSized
import Derived.Test.YtbpbniemjjhecaaGreatZGTail
import Derived.Test.YtbpbniemjjhecaaGreatZPPar0
import Derived.Test.YtbpbniemjjhecaaGreatZGTrieNew2
import Derived.Test.YtbpbniemjjhecaaGreatZGChunk3
section
namespace Go.Proofs.YtbpbniemjjhecaaGreat.PChk
open Go.RowKit Go.Proofs.YtbpbniemjjhecaaGreat.G Go.Proofs.YtbpbniemjjhecaaGreat.PChk Go.Proofs.YtbpbniemjjhecaaGreatW.PrintWords Go.Proofs.YtbpbniemjjhecaaGreatW.PrintLast Go.Proofs.YtbpbniemjjhecaaGreatW.PrintMore
attribute [local go_sem] max2_int min2_int max_two min_two max_three min_three max_four min_four
set_option linter.unusedVariables false
set_option linter.unusedSimpArgs false
end Go.Proofs.YtbpbniemjjhecaaGreat.PChk
end
section
namespace Go.Proofs.YtbpbniemjjhecaaGreat.PChk
open Go.RowKit Go.Proofs.YtbpbniemjjhecaaGreat.G Go.Proofs.YtbpbniemjjhecaaGreat.PChk Go.Proofs.YtbpbniemjjhecaaGreatW.PrintWords Go.Proofs.YtbpbniemjjhecaaGreatW.PrintLast Go.Proofs.YtbpbniemjjhecaaGreatW.PrintMore
attribute [local go_sem] max2_int min2_int max_two min_two max_three min_three max_four min_four
set_option linter.unusedVariables false
set_option linter.unusedSimpArgs false
set_option maxHeartbeats 8000000
set_option maxRecDepth 100000
mutual
def w12_lefts.l0 : Nat → List (S50) → List (S48) → Int → ByteArray → Int → Option (ByteArray)
 | 0, _, _, _, _, _ => none
 | k + 1, x1, x7, x8, x9, x10 => if x10 < (x7.length : Int) then (w12_lefts.j1 k x1 x7 x8 x9 x10 (x8 == 0)) else (w12_lefts.j1 k x1 x7 x8 x9 x10 false)
def w12_lefts.j1 : Nat → List (S50) → List (S48) → Int → ByteArray → Int → Bool → Option (ByteArray)
 | 0, _, _, _, _, _, _ => none
 | k + 1, x1, x7, x8, x9, x10, x25 => if x25 = true then (if 0 ≤ x10 then (if x10 < (x7.length : Int) then (if ((rd_T48 x7 x10).f0) < 0 then (some (⟨#[110, 111, 110, 101]⟩ : ByteArray)) else (if ((rd_T48 x7 x10).f0) ≥ (x1.length : Int) then (some (⟨#[110, 111, 110, 101]⟩ : ByteArray)) else (if x9.size + 1 ≤ 9223372036854775807 then (if 0 ≤ ((rd_T48 x7 x10).f0) then (if ((rd_T48 x7 x10).f0) < (x1.length : Int) then (if (x9 ++ (⟨#[32]⟩ : ByteArray)).size + ((rd_T50 x1 ((rd_T48 x7 x10).f0)).f1).size ≤ 9223372036854775807 then (w12_lefts.l0 k x1 x7 x8 ((x9 ++ (⟨#[32]⟩ : ByteArray)) ++ ((rd_T50 x1 ((rd_T48 x7 x10).f0)).f1)) (wrap64 (x10 + 1))) else (none)) else (none)) else (none)) else (none)))) else (none)) else (none)) else (some x9)
end
def w12_lefts.f (k : Nat) (a0 : Tr) (l1 : List (S50)) (a2 : ByteArray) : Option (ByteArray) := (r12_Read.f k a2).bind fun t101 => ((chunk_Of.f a0 t101).bind fun bt104 => (w12_lefts.l0 k l1 bt104.1 bt104.2 (⟨#[]⟩ : ByteArray) 0))
theorem w12_lefts.calls (k : Nat) (a0 : Tr) (A1 : Option Addr) (c1 : Nat) (l1 : List (S50)) (a2 : ByteArray) (r : ByteArray) (w : World) (hT0 : Tr.Is w a0) (hr1 : Kd.C k50 w A1 l1.length l1) (hc1 : l1.length ≤ c1) (h : w12_lefts.f k a0 l1 a2 = some r) :
  Calls Tryz.prog 25 #[a0.v, .slice A1 l1.length c1, .string a2] w fun e w' => e = .returned (.string r) ∧ Below w.heap.size w w' := by
 have HT0 := aK hT0
 clear hT0
 have HR1 := aK hr1
 have HC1 := aK hc1
 clear hr1 hc1
 have HB := aK (Below.refl w.heap.size w)
 have H : ((r12_Read.f k a2).bind fun t101 => ((chunk_Of.f a0 t101).bind fun bt104 => (w12_lefts.l0 k l1 bt104.1 bt104.2 (⟨#[]⟩ : ByteArray) 0))) = some r := h
 clear h
 obtain ⟨t101, A4, H⟩ := oC H
 try dsimp only at H
 obtain ⟨⟨t104, t105⟩, A5, H⟩ := oC H
 try dsimp only at H
 have H' := aK H
 clear H
 go_enter Tryz.func25, Tryz.ntmps25
 go_wp2_with (first | ((with_reducible refine gate_callee (f := 65) rfl ?_); refine gO 14 Tryz.func65 #[.string a2] ?_; (with_reducible refine (r12_Read.calls k a2 t101 _ A4.out).mono ?_); rintro e w6 ⟨v102, rfl, ho0, hb⟩; refine ⟨_, rfl, ?_⟩; have HO103 := aK (Kd.R_lower ho0 (bSz bX)); replace HB := aK (bSp bX hb); clear hb; clear ho0; obtain ⟨Ao7, co7, eo7⟩ := Kd.R_slice HO103.out; subst eo7) | ((with_reducible refine gate_callee (f := 13) rfl ?_); refine gO 15 Tryz.func13 #[a0.v, .slice Ao7 t101.length co7] ?_; (with_reducible refine (chunk_Of.calls a0 _ _ t101 t104 t105 _ ?side1 ?side2 ?side3 A5.out).mono ?_); (case side1 => exact Tr.Is.below HT0.out bX); (case side2 => repeat (first | exact (Kd.R_reads' HO103.out).2.2 | (with_reducible refine Kd.C_alloc ?_ _) | (with_reducible refine Kd.C_drewN ?_ _) | (with_reducible refine Kd.C_drew ?_))); (case side3 => exact (Kd.R_reads' HO103.out).2.1); rintro e w8 ⟨v106, rfl, ho0, hb⟩; refine ⟨_, rfl, ?_⟩; replace HO103 := aK (Kd.R_below (rX HO103.out) hb); have HO107 := aK (Kd.R_lower ho0 (bSz bX)); replace HB := aK (bSp bX hb); clear hb; clear ho0))
 go_loopg [9, 10] k (fun kq v9 v10 w' => ∃ (x9_1 : ByteArray) (x10_1 : Int), v9 = .string x9_1 ∧ v10 = .int .i64 x10_1 ∧ Aside0 (w12_lefts.l0 kq l1 t104 t105 x9_1 x10_1 = some r) ∧ Aside0 (kq ≤ k) ∧ Aside0 (Kd.R k48 48 w' w.heap.size (fun _ => True) v106 t104) ∧ Aside0 (Below w.heap.size w w'))
 case atStart => exact ⟨((⟨#[]⟩ : ByteArray)), (0), sX, sX, H', ⟨Nat.le_refl _⟩, ⟨rX HO107.out⟩, ⟨bX⟩⟩
 case round =>
  clear H'
  try clear c1
  try clear c2
  try clear p2
  try clear c6
  obtain ⟨x9_1, x10_1, rfl, rfl, HA, HK1, HO_7, HB⟩ := hrel
  cases gk with
  | zero => exact absurd HA.out (by simp [w12_lefts.l0])
  | succ k1 =>
   have H := HA.out; clear HA
   simp only [w12_lefts.l0] at H
   have HC9 := aK H; clear H
   go_upto_region 4 with (fail)
   go_cut [25] (fun v25 wc => ∃ (kq : Nat) (x25_8 : Bool), v25 = .bool x25_8 ∧ Aside0 (w12_lefts.j1 kq l1 t104 t105 x9_1 x10_1 x25_8 = some r) ∧ Aside0 (kq ≤ k1) ∧ Aside0 (Kd.R k48 48 wc w.heap.size (fun _ => True) v106 t104) ∧ Aside0 (Below w.heap.size w wc))
   case first =>
    have H := HC9.out; clear HC9
    by_cases c10 : x10_1 < (t104.length : Int)
    rotate_left
    ·
     rw [if_neg c10] at H; have c10b0 : decide (x10_1 < (t104.length : Int)) = false := decide_eq_false c10; clear c10
     (first | rw [c10b0] | (simp only [i64_w, i32_w]; rw [c10b0]) | skip)
     have H' := aK H; clear H
     obtain ⟨Ao12, co12, eo12⟩ := Kd.R_slice HO_7.out
     subst eo12
     go_wp2
     go_meet
     case rel => exact ⟨_, (false), sX, H', ⟨by have := HK1.out; first | omega | exact Nat.le_refl _⟩, ⟨rX HO_7.out⟩, ⟨bX⟩⟩
    rw [if_pos c10] at H; have c10b0 : decide (x10_1 < (t104.length : Int)) = true := decide_eq_true c10; clear c10
    (first | rw [c10b0] | (simp only [i64_w, i32_w]; rw [c10b0]) | skip)
    have H' := aK H; clear H
    obtain ⟨Ao11, co11, eo11⟩ := Kd.R_slice HO_7.out
    subst eo11
    go_wp2
    go_meet
    case rel => exact ⟨_, ((t105 == 0)), sX, H', ⟨by have := HK1.out; first | omega | exact Nat.le_refl _⟩, ⟨rX HO_7.out⟩, ⟨bX⟩⟩
   case rest =>
    clear HC9
    try clear c1
    try clear c2
    try clear p2
    try clear c6
    try clear c10
    try clear c10b0
    try clear p2
    obtain ⟨kq, x25_8, rfl, HA, HJ8, HO_7, HB⟩ := hcut
    cases kq with
    | zero => exact absurd HA.out (by simp [w12_lefts.j1])
    | succ kj8 =>
     have H := HA.out; clear HA
     simp only [w12_lefts.j1] at H
     by_cases c13 : x25_8 = true
     rotate_left
     ·
      replace c13 := Bool.eq_false_iff.mpr c13; subst c13
      have H1 : (some x9_1) = some r := by rw [if_neg (show ¬ (false = true) by decide)] at H; exact H
      clear H
      have H := H1
      clear H1; obtain rfl := oI H
      go_wp2
      go_ret
      exact ⟨eX, bX⟩
     subst c13
     have H1 : (if 0 ≤ x10_1 then (if x10_1 < (t104.length : Int) then (if ((rd_T48 t104 x10_1).f0) < 0 then (some (⟨#[110, 111, 110, 101]⟩ : ByteArray)) else (if ((rd_T48 t104 x10_1).f0) ≥ (l1.length : Int) then (some (⟨#[110, 111, 110, 101]⟩ : ByteArray)) else (if x9_1.size + 1 ≤ 9223372036854775807 then (if 0 ≤ ((rd_T48 t104 x10_1).f0) then (if ((rd_T48 t104 x10_1).f0) < (l1.length : Int) then (if (x9_1 ++ (⟨#[32]⟩ : ByteArray)).size + ((rd_T50 l1 ((rd_T48 t104 x10_1).f0)).f1).size ≤ 9223372036854775807 then (w12_lefts.l0 kj8 l1 t104 t105 ((x9_1 ++ (⟨#[32]⟩ : ByteArray)) ++ ((rd_T50 l1 ((rd_T48 t104 x10_1).f0)).f1)) (wrap64 (x10_1 + 1))) else (none)) else (none)) else (none)) else (none)))) else (none)) else (none)) = some r := by rw [if_pos rfl] at H; exact H
     clear H
     have H := H1
     clear H1
     by_cases c14 : 0 ≤ x10_1
     rotate_left
     ·
      rw [if_neg c14] at H
      exact absurd H (by simp)
     rw [if_pos c14] at H; have c14b0 : decide (0 ≤ x10_1) = true := decide_eq_true c14; clear c14
     by_cases c15 : x10_1 < (t104.length : Int)
     rotate_left
     ·
      rw [if_neg c15] at H
      exact absurd H (by simp)
     rw [if_pos c15] at H; have c15b0 : decide (x10_1 < (t104.length : Int)) = true := decide_eq_true c15; clear c15
     by_cases c16 : ((rd_T48 t104 x10_1).f0) < 0
     rotate_left
     ·
      rw [if_neg c16] at H; have c16b0 : decide (((rd_T48 t104 x10_1).f0) < 0) = false := decide_eq_false c16; clear c16
      by_cases c18 : ((rd_T48 t104 x10_1).f0) ≥ (l1.length : Int)
      rotate_left
      ·
       rw [if_neg c18] at H; have c18b0 : decide ((l1.length : Int) ≤ ((rd_T48 t104 x10_1).f0)) = false := decide_eq_false c18; clear c18
       by_cases c20 : x9_1.size + 1 ≤ 9223372036854775807
       rotate_left
       ·
        rw [if_neg c20] at H
        exact absurd H (by simp)
       rw [if_pos c20] at H; have c20b0 := eq_true c20; have c20b1 : decide (x9_1.size + 1 ≤ 9223372036854775807) = true := decide_eq_true c20
       try have c20b2 : (9223372036854775807 < x9_1.size + 1) = False := eq_false (Nat.not_lt.2 c20)
       by_cases c21 : 0 ≤ ((rd_T48 t104 x10_1).f0)
       rotate_left
       ·
        rw [if_neg c21] at H
        exact absurd H (by simp)
       rw [if_pos c21] at H; have c21b0 : decide (0 ≤ ((rd_T48 t104 x10_1).f0)) = true := decide_eq_true c21; clear c21
       by_cases c22 : ((rd_T48 t104 x10_1).f0) < (l1.length : Int)
       rotate_left
       ·
        rw [if_neg c22] at H
        exact absurd H (by simp)
       rw [if_pos c22] at H; have c22b0 : decide (((rd_T48 t104 x10_1).f0) < (l1.length : Int)) = true := decide_eq_true c22; clear c22
       by_cases c23 : (x9_1 ++ (⟨#[32]⟩ : ByteArray)).size + ((rd_T50 l1 ((rd_T48 t104 x10_1).f0)).f1).size ≤ 9223372036854775807
       rotate_left
       ·
        rw [if_neg c23] at H
        exact absurd H (by simp)
       rw [if_pos c23] at H; have c23b0 := eq_true c23; have c23b1 : decide ((x9_1 ++ (⟨#[32]⟩ : ByteArray)).size + ((rd_T50 l1 ((rd_T48 t104 x10_1).f0)).f1).size ≤ 9223372036854775807) = true := decide_eq_true c23
       try have c23b2 : (9223372036854775807 < (x9_1 ++ (⟨#[32]⟩ : ByteArray)).size + ((rd_T50 l1 ((rd_T48 t104 x10_1).f0)).f1).size) = False := eq_false (Nat.not_lt.2 c23)
       try have c23b2r : (9223372036854775807 < x9_1.size + 1 + ((rd_T50 l1 ((rd_T48 t104 x10_1).f0)).f1).size) = False := (by have h_ := c23; simp only [ByteArray.size_append] at h_; exact eq_false (Nat.not_lt.2 h_))
       have H' := aK H; clear H
       obtain ⟨Ao24, co24, eo24⟩ := Kd.R_slice HO_7.out
       subst eo24; have p108 : 0 ≤ (x10_1 : Int) := oA; have q108 : x10_1 < (t104.length : Int) := oA
       obtain ⟨ad108, e108, hx108_0, hx108_1, hx108_2⟩ := at_T48 (Kd.R_reads' HO_7.out).2.2 x10_1 p108 q108
       cases e108
       replace p108 := eq_true p108; replace q108 := eq_true q108; have p109 : 0 ≤ (x10_1 : Int) := oA; have q109 : x10_1 < (t104.length : Int) := oA
       obtain ⟨ad109, e109, hx109_0, hx109_1, hx109_2⟩ := at_T48 (Kd.R_reads' HO_7.out).2.2 x10_1 p109 q109
       obtain rfl : ad108 = ad109 := (by injection e109)
       replace p109 := eq_true p109; replace q109 := eq_true q109; have p110 : 0 ≤ (x10_1 : Int) := oA; have q110 : x10_1 < (t104.length : Int) := oA
       obtain ⟨ad110, e110, hx110_0, hx110_1, hx110_2⟩ := at_T48 (Kd.R_reads' HO_7.out).2.2 x10_1 p110 q110
       obtain rfl : ad108 = ad110 := (by injection e110)
       replace p110 := eq_true p110; replace q110 := eq_true q110; have p111 : 0 ≤ (((rd_T48 t104 x10_1).f0) : Int) := oA; have q111 : ((rd_T48 t104 x10_1).f0) < (l1.length : Int) := oA
       obtain ⟨ad111, e111, hx111_0, hx111_1, hx111_2, hx111_3, hx111_4⟩ := at_T50 HR1.out ((rd_T48 t104 x10_1).f0) p111 q111
       cases e111
       replace hx111_0 := (HB.out.cell (World.block_lt_of_cell? w _ hx111_0)).trans hx111_0
       replace hx111_1 := (HB.out.cell (World.block_lt_of_cell? w _ hx111_1)).trans hx111_1
       replace hx111_2 := (HB.out.cell (World.block_lt_of_cell? w _ hx111_2)).trans hx111_2
       replace hx111_3 := (HB.out.cell (World.block_lt_of_cell? w _ hx111_3)).trans hx111_3
       replace hx111_4 := (HB.out.cell (World.block_lt_of_cell? w _ hx111_4)).trans hx111_4
       replace p111 := eq_true p111; replace q111 := eq_true q111
       go_wp2
       go_roundg kj8
       case measure => have := HK1.out; have := HJ8.out; omega
       case rel => exact ⟨((x9_1 ++ (⟨#[32]⟩ : ByteArray)) ++ ((rd_T50 l1 ((rd_T48 t104 x10_1).f0)).f1)), (wrap64 (x10_1 + 1)), sX, sX, H', ⟨by have := HK1.out; have := HJ8.out; omega⟩, ⟨rX HO_7.out⟩, ⟨bX⟩⟩
      rw [if_pos c18] at H; have c18b0 : decide ((l1.length : Int) ≤ ((rd_T48 t104 x10_1).f0)) = true := decide_eq_true c18; clear c18; obtain rfl := oI H
      obtain ⟨Ao19, co19, eo19⟩ := Kd.R_slice HO_7.out
      subst eo19; have p108 : 0 ≤ (x10_1 : Int) := oA; have q108 : x10_1 < (t104.length : Int) := oA
      obtain ⟨ad108, e108, hx108_0, hx108_1, hx108_2⟩ := at_T48 (Kd.R_reads' HO_7.out).2.2 x10_1 p108 q108
      cases e108
      replace p108 := eq_true p108; replace q108 := eq_true q108; have p109 : 0 ≤ (x10_1 : Int) := oA; have q109 : x10_1 < (t104.length : Int) := oA
      obtain ⟨ad109, e109, hx109_0, hx109_1, hx109_2⟩ := at_T48 (Kd.R_reads' HO_7.out).2.2 x10_1 p109 q109
      obtain rfl : ad108 = ad109 := (by injection e109)
      replace p109 := eq_true p109; replace q109 := eq_true q109
      go_wp2
      go_ret
      exact ⟨eX, bX⟩
     rw [if_pos c16] at H; have c16b0 : decide (((rd_T48 t104 x10_1).f0) < 0) = true := decide_eq_true c16; clear c16; obtain rfl := oI H
     obtain ⟨Ao17, co17, eo17⟩ := Kd.R_slice HO_7.out
     subst eo17; have p108 : 0 ≤ (x10_1 : Int) := oA; have q108 : x10_1 < (t104.length : Int) := oA
     obtain ⟨ad108, e108, hx108_0, hx108_1, hx108_2⟩ := at_T48 (Kd.R_reads' HO_7.out).2.2 x10_1 p108 q108
     cases e108
     replace p108 := eq_true p108; replace q108 := eq_true q108
     go_wp2
     go_ret
     exact ⟨eX, bX⟩
end Go.Proofs.YtbpbniemjjhecaaGreat.PChk
end
section
namespace Go.Proofs.YtbpbniemjjhecaaGreat.PChk
open Go.RowKit Go.Proofs.YtbpbniemjjhecaaGreat.G Go.Proofs.YtbpbniemjjhecaaGreat.PChk Go.Proofs.YtbpbniemjjhecaaGreatW.PrintWords Go.Proofs.YtbpbniemjjhecaaGreatW.PrintLast Go.Proofs.YtbpbniemjjhecaaGreatW.PrintMore
attribute [local go_sem] max2_int min2_int max_two min_two max_three min_three max_four min_four
set_option linter.unusedVariables false
set_option linter.unusedSimpArgs false
set_option maxHeartbeats 8000000
set_option maxRecDepth 100000
def awake12.f (k : Nat) (l0 : List (S50)) (a1 : Tr) : Option (Bool) := (w12_lefts.f k a1 l0 (⟨#[98, 117, 116]⟩ : ByteArray)).bind fun t101 => (if t101.toList = ([32, 98, 117, 116] : List UInt8) then ((w12_lefts.f k a1 l0 (⟨#[66, 117, 116]⟩ : ByteArray)).bind fun t102 => (if t102.toList = ([32, 99, 97, 112, 32, 98, 117, 116] : List UInt8) then ((w12_lefts.f k a1 l0 (⟨#[66, 85, 84]⟩ : ByteArray)).bind fun t103 => (if t103.toList = ([32, 99, 97, 112, 115, 32, 98, 117, 116] : List UInt8) then ((w12_lefts.f k a1 l0 (⟨#[98, 85, 84]⟩ : ByteArray)).bind fun t104 => (if t104.toList = ([32, 98, 32, 99, 97, 112, 115, 32, 117, 32, 116] : List UInt8) then ((w12_lefts.f k a1 l0 (⟨#[98]⟩ : ByteArray)).bind fun t105 => (if t105.toList = ([32, 108, 101, 116, 32, 98] : List UInt8) then ((w12_lefts.f k a1 l0 (⟨#[66]⟩ : ByteArray)).bind fun t106 => (if t106.toList = ([32, 108, 101, 116, 32, 99, 97, 112, 32, 98] : List UInt8) then ((w12_lefts.f k a1 l0 (⟨#[120]⟩ : ByteArray)).bind fun t107 => (if t107.toList = ([32, 108, 101, 116, 32, 120] : List UInt8) then ((w12_lefts.f k a1 l0 (⟨#[83, 97, 110, 100]⟩ : ByteArray)).bind fun t108 => (if t108.toList = ([32, 99, 97, 112, 32, 115, 32, 97, 110, 100] : List UInt8) then ((w12_lefts.f k a1 l0 (⟨#[115, 97, 110, 68]⟩ : ByteArray)).bind fun t109 => (if t109.toList = ([32, 115, 32, 97, 32, 110, 32, 99, 97, 112, 32, 100] : List UInt8) then ((w12_lefts.f k a1 l0 (⟨#[83, 65, 78, 100]⟩ : ByteArray)).bind fun t110 => (if t110.toList = ([32, 99, 97, 112, 32, 115, 32, 99, 97, 112, 32, 97, 32, 99, 97, 112, 32, 110, 32, 100] : List UInt8) then ((w12_lefts.f k a1 l0 (⟨#[97, 49, 98, 50]⟩ : ByteArray)).bind fun t111 => (if t111.toList = ([32, 97, 32, 110, 117, 109, 32, 49, 32, 108, 101, 116, 32, 98, 32, 110, 117, 109, 32, 50] : List UInt8) then ((w12_lefts.f k a1 l0 (⟨#[49, 50, 46, 53]⟩ : ByteArray)).bind fun t112 => (if t112.toList = ([32, 110, 117, 109, 32, 49, 32, 50, 32, 46, 32, 110, 117, 109, 32, 53] : List UInt8) then ((w12_lefts.f k a1 l0 (⟨#[43, 101, 98, 117, 116, 126, 101]⟩ : ByteArray)).bind fun t113 => (some (t113.toList == ([32, 101, 43, 32, 98, 32, 117, 32, 116, 32, 101, 45] : List UInt8)))) else (some false))) else (some false))) else (some false))) else (some false))) else (some false))) else (some false))) else (some false))) else (some false))) else (some false))) else (some false))) else (some false))) else (some false))
theorem awake12.calls (k : Nat) (r : Bool) (w00 : World) (hf : ∀ v, awake12.f k Go.Proofs.YtbpbniemjjhecaaGreat.PureC.baseL ⟨v, some (some Go.Proofs.YtbpbniemjjhecaaGreat.PureC.baseL)⟩ = some r) (hTr : r = true) :
  Calls Tryz.prog 8 #[] w00 fun e w' => e = .returned (.bool r) ∧ Below w00.heap.size w00 w' := by
 have h0 := r9_Base.calls 7000 Go.Proofs.YtbpbniemjjhecaaGreat.PureC.baseL w00 (Go.Proofs.YtbpbniemjjhecaaGreat.PureC.base_is 7000 (Nat.le_refl _))
 have HF := aK hf
 clear hf
 go_enter Tryz.func8, Tryz.ntmps8
 try dsimp only [List.append]
 go_wp2_with fail
 go_at_call 24
 refine h0.mono ?_
 rintro e w1 ⟨u, rfl, hu, b1⟩
 obtain ⟨A0, c0, rfl, hc, hC⟩ := Kd.R_reads hu
 have hn := trie_New.calls A0 c0 Go.Proofs.YtbpbniemjjhecaaGreat.PureC.baseL _ 0 0 w1 hC hc Go.Proofs.YtbpbniemjjhecaaGreat.PureC.base_new
 have HC1 := Lib.hid hC
 have HL1 := Lib.hid hc
 have HB1 := Lib.hid b1
 clear hu hC b1 h0 hc
 go_wp2_with fail
 go_at_call 12
 refine hn.mono ?_
 rintro e w ⟨v, rfl, ht, b2⟩
 have HT2 := Lib.hid ht
 have HC2 := Lib.hid (Kd.C_below HC1.out b2)
 have HB2 := Lib.hid (bSp HB1.out b2)
 clear hn b2 ht HC1 HB1
 go_upto_region 5 with (fail)
 have HB00 := aK HB2.out
 obtain ⟨a1, ea⟩ : ∃ a1 : Tr, a1 = ⟨v, some (some Go.Proofs.YtbpbniemjjhecaaGreat.PureC.baseL)⟩ := ⟨_, rfl⟩
 have hT1 : Tr.Is w a1 := by rw [ea]; exact HT2.out
 have h := HF.out v
 rw [← ea] at h
 obtain rfl : v = a1.v := by rw [ea]
 have hr0 := HC2.out
 have hc0 := HL1.out
 clear HT2 HC2 HL1 HF HB2 ea
 generalize Go.Proofs.YtbpbniemjjhecaaGreat.PureC.baseL = l0 at h hr0 hc0 ⊢
 have HR0 := aK hr0
 have HC0 := aK hc0
 clear hr0 hc0
 have HT1 := aK hT1
 clear hT1
 have HB := aK (Below.refl w.heap.size w)
 have H : ((w12_lefts.f k a1 l0 (⟨#[98, 117, 116]⟩ : ByteArray)).bind fun t101 => (if t101.toList = ([32, 98, 117, 116] : List UInt8) then ((w12_lefts.f k a1 l0 (⟨#[66, 117, 116]⟩ : ByteArray)).bind fun t102 => (if t102.toList = ([32, 99, 97, 112, 32, 98, 117, 116] : List UInt8) then ((w12_lefts.f k a1 l0 (⟨#[66, 85, 84]⟩ : ByteArray)).bind fun t103 => (if t103.toList = ([32, 99, 97, 112, 115, 32, 98, 117, 116] : List UInt8) then ((w12_lefts.f k a1 l0 (⟨#[98, 85, 84]⟩ : ByteArray)).bind fun t104 => (if t104.toList = ([32, 98, 32, 99, 97, 112, 115, 32, 117, 32, 116] : List UInt8) then ((w12_lefts.f k a1 l0 (⟨#[98]⟩ : ByteArray)).bind fun t105 => (if t105.toList = ([32, 108, 101, 116, 32, 98] : List UInt8) then ((w12_lefts.f k a1 l0 (⟨#[66]⟩ : ByteArray)).bind fun t106 => (if t106.toList = ([32, 108, 101, 116, 32, 99, 97, 112, 32, 98] : List UInt8) then ((w12_lefts.f k a1 l0 (⟨#[120]⟩ : ByteArray)).bind fun t107 => (if t107.toList = ([32, 108, 101, 116, 32, 120] : List UInt8) then ((w12_lefts.f k a1 l0 (⟨#[83, 97, 110, 100]⟩ : ByteArray)).bind fun t108 => (if t108.toList = ([32, 99, 97, 112, 32, 115, 32, 97, 110, 100] : List UInt8) then ((w12_lefts.f k a1 l0 (⟨#[115, 97, 110, 68]⟩ : ByteArray)).bind fun t109 => (if t109.toList = ([32, 115, 32, 97, 32, 110, 32, 99, 97, 112, 32, 100] : List UInt8) then ((w12_lefts.f k a1 l0 (⟨#[83, 65, 78, 100]⟩ : ByteArray)).bind fun t110 => (if t110.toList = ([32, 99, 97, 112, 32, 115, 32, 99, 97, 112, 32, 97, 32, 99, 97, 112, 32, 110, 32, 100] : List UInt8) then ((w12_lefts.f k a1 l0 (⟨#[97, 49, 98, 50]⟩ : ByteArray)).bind fun t111 => (if t111.toList = ([32, 97, 32, 110, 117, 109, 32, 49, 32, 108, 101, 116, 32, 98, 32, 110, 117, 109, 32, 50] : List UInt8) then ((w12_lefts.f k a1 l0 (⟨#[49, 50, 46, 53]⟩ : ByteArray)).bind fun t112 => (if t112.toList = ([32, 110, 117, 109, 32, 49, 32, 50, 32, 46, 32, 110, 117, 109, 32, 53] : List UInt8) then ((w12_lefts.f k a1 l0 (⟨#[43, 101, 98, 117, 116, 126, 101]⟩ : ByteArray)).bind fun t113 => (some (t113.toList == ([32, 101, 43, 32, 98, 32, 117, 32, 116, 32, 101, 45] : List UInt8)))) else (some false))) else (some false))) else (some false))) else (some false))) else (some false))) else (some false))) else (some false))) else (some false))) else (some false))) else (some false))) else (some false))) else (some false))) = some r := h
 have hr0 := aK hTr
 clear h
 obtain ⟨t101, A3, H⟩ := oC H
 try dsimp only at H
 by_cases c4 : t101.toList = ([32, 98, 117, 116] : List UInt8)
 rotate_left
 ·
  rw [if_neg c4] at H; obtain ⟨c4b0, c4b1⟩ := bN c4
  exact absurd ((oI H).trans hr0.out) (by decide)
 rw [if_pos c4] at H
 obtain ⟨c4b0, c4b1⟩ := bY c4
 clear c4
 obtain ⟨t102, A5, H⟩ := oC H
 try dsimp only at H
 by_cases c6 : t102.toList = ([32, 99, 97, 112, 32, 98, 117, 116] : List UInt8)
 rotate_left
 ·
  rw [if_neg c6] at H; obtain ⟨c6b0, c6b1⟩ := bN c6
  exact absurd ((oI H).trans hr0.out) (by decide)
 rw [if_pos c6] at H
 obtain ⟨c6b0, c6b1⟩ := bY c6
 clear c6
 obtain ⟨t103, A7, H⟩ := oC H
 try dsimp only at H
 by_cases c8 : t103.toList = ([32, 99, 97, 112, 115, 32, 98, 117, 116] : List UInt8)
 rotate_left
 ·
  rw [if_neg c8] at H; obtain ⟨c8b0, c8b1⟩ := bN c8
  exact absurd ((oI H).trans hr0.out) (by decide)
 rw [if_pos c8] at H
 obtain ⟨c8b0, c8b1⟩ := bY c8
 clear c8
 obtain ⟨t104, A9, H⟩ := oC H
 try dsimp only at H
 by_cases c10 : t104.toList = ([32, 98, 32, 99, 97, 112, 115, 32, 117, 32, 116] : List UInt8)
 rotate_left
 ·
  rw [if_neg c10] at H; obtain ⟨c10b0, c10b1⟩ := bN c10
  exact absurd ((oI H).trans hr0.out) (by decide)
 rw [if_pos c10] at H
 obtain ⟨c10b0, c10b1⟩ := bY c10
 clear c10
 obtain ⟨t105, A11, H⟩ := oC H
 try dsimp only at H
 by_cases c12 : t105.toList = ([32, 108, 101, 116, 32, 98] : List UInt8)
 rotate_left
 ·
  rw [if_neg c12] at H; obtain ⟨c12b0, c12b1⟩ := bN c12
  exact absurd ((oI H).trans hr0.out) (by decide)
 rw [if_pos c12] at H
 obtain ⟨c12b0, c12b1⟩ := bY c12
 clear c12
 obtain ⟨t106, A13, H⟩ := oC H
 try dsimp only at H
 by_cases c14 : t106.toList = ([32, 108, 101, 116, 32, 99, 97, 112, 32, 98] : List UInt8)
 rotate_left
 ·
  rw [if_neg c14] at H; obtain ⟨c14b0, c14b1⟩ := bN c14
  exact absurd ((oI H).trans hr0.out) (by decide)
 rw [if_pos c14] at H
 obtain ⟨c14b0, c14b1⟩ := bY c14
 clear c14
 obtain ⟨t107, A15, H⟩ := oC H
 try dsimp only at H
 by_cases c16 : t107.toList = ([32, 108, 101, 116, 32, 120] : List UInt8)
 rotate_left
 ·
  rw [if_neg c16] at H; obtain ⟨c16b0, c16b1⟩ := bN c16
  exact absurd ((oI H).trans hr0.out) (by decide)
 rw [if_pos c16] at H
 obtain ⟨c16b0, c16b1⟩ := bY c16
 clear c16
 obtain ⟨t108, A17, H⟩ := oC H
 try dsimp only at H
 by_cases c18 : t108.toList = ([32, 99, 97, 112, 32, 115, 32, 97, 110, 100] : List UInt8)
 rotate_left
 ·
  rw [if_neg c18] at H; obtain ⟨c18b0, c18b1⟩ := bN c18
  exact absurd ((oI H).trans hr0.out) (by decide)
 rw [if_pos c18] at H
 obtain ⟨c18b0, c18b1⟩ := bY c18
 clear c18
 obtain ⟨t109, A19, H⟩ := oC H
 try dsimp only at H
 by_cases c20 : t109.toList = ([32, 115, 32, 97, 32, 110, 32, 99, 97, 112, 32, 100] : List UInt8)
 rotate_left
 ·
  rw [if_neg c20] at H; obtain ⟨c20b0, c20b1⟩ := bN c20
  exact absurd ((oI H).trans hr0.out) (by decide)
 rw [if_pos c20] at H
 obtain ⟨c20b0, c20b1⟩ := bY c20
 clear c20
 obtain ⟨t110, A21, H⟩ := oC H
 try dsimp only at H
 by_cases c22 : t110.toList = ([32, 99, 97, 112, 32, 115, 32, 99, 97, 112, 32, 97, 32, 99, 97, 112, 32, 110, 32, 100] : List UInt8)
 rotate_left
 ·
  rw [if_neg c22] at H; obtain ⟨c22b0, c22b1⟩ := bN c22
  exact absurd ((oI H).trans hr0.out) (by decide)
 rw [if_pos c22] at H
 obtain ⟨c22b0, c22b1⟩ := bY c22
 clear c22
 obtain ⟨t111, A23, H⟩ := oC H
 try dsimp only at H
 by_cases c24 : t111.toList = ([32, 97, 32, 110, 117, 109, 32, 49, 32, 108, 101, 116, 32, 98, 32, 110, 117, 109, 32, 50] : List UInt8)
 rotate_left
 ·
  rw [if_neg c24] at H; obtain ⟨c24b0, c24b1⟩ := bN c24
  exact absurd ((oI H).trans hr0.out) (by decide)
 rw [if_pos c24] at H
 obtain ⟨c24b0, c24b1⟩ := bY c24
 clear c24
 obtain ⟨t112, A25, H⟩ := oC H
 try dsimp only at H
 by_cases c26 : t112.toList = ([32, 110, 117, 109, 32, 49, 32, 50, 32, 46, 32, 110, 117, 109, 32, 53] : List UInt8)
 rotate_left
 ·
  rw [if_neg c26] at H; obtain ⟨c26b0, c26b1⟩ := bN c26
  exact absurd ((oI H).trans hr0.out) (by decide)
 rw [if_pos c26] at H
 obtain ⟨c26b0, c26b1⟩ := bY c26
 clear c26
 obtain ⟨t113, A27, H⟩ := oC H
 try dsimp only at H
 obtain rfl := oI H
 go_wp2_with (first | ((with_reducible refine gate_callee (f := 25) rfl ?_); refine gO 16 Tryz.func25 #[a1.v, .slice A0 l0.length c0, .string (⟨#[98, 117, 116]⟩ : ByteArray)] ?_; (with_reducible refine (w12_lefts.calls k a1 _ _ l0 (⟨#[98, 117, 116]⟩ : ByteArray) t101 _ ?side1 ?side2 ?side3 A3.out).mono ?_); (case side1 => exact Tr.Is.below HT1.out bX); (case side2 => repeat (first | exact HR0.out | (with_reducible refine Kd.C_alloc ?_ _) | (with_reducible refine Kd.C_drewN ?_ _) | (with_reducible refine Kd.C_drew ?_))); (case side3 => exact HC0.out); rintro e w28 ⟨rfl, hb⟩; refine ⟨_, rfl, ?_⟩; replace HB := aK (bSp bX hb); clear hb) | (go_at_call 25; (with_reducible refine (w12_lefts.calls k a1 _ _ l0 (⟨#[66, 117, 116]⟩ : ByteArray) t102 _ ?side1 ?side2 ?side3 A5.out).mono ?_); (case side1 => exact Tr.Is.below HT1.out bX); (case side2 => exact cX HR0.out); (case side3 => exact HC0.out); rintro e w29 ⟨rfl, hb⟩; replace HB := aK (bSp bX hb); clear hb) | (go_at_call 25; (with_reducible refine (w12_lefts.calls k a1 _ _ l0 (⟨#[66, 85, 84]⟩ : ByteArray) t103 _ ?side1 ?side2 ?side3 A7.out).mono ?_); (case side1 => exact Tr.Is.below HT1.out bX); (case side2 => exact cX HR0.out); (case side3 => exact HC0.out); rintro e w30 ⟨rfl, hb⟩; replace HB := aK (bSp bX hb); clear hb) | (go_at_call 25; (with_reducible refine (w12_lefts.calls k a1 _ _ l0 (⟨#[98, 85, 84]⟩ : ByteArray) t104 _ ?side1 ?side2 ?side3 A9.out).mono ?_); (case side1 => exact Tr.Is.below HT1.out bX); (case side2 => exact cX HR0.out); (case side3 => exact HC0.out); rintro e w31 ⟨rfl, hb⟩; replace HB := aK (bSp bX hb); clear hb) | (go_at_call 25; (with_reducible refine (w12_lefts.calls k a1 _ _ l0 (⟨#[98]⟩ : ByteArray) t105 _ ?side1 ?side2 ?side3 A11.out).mono ?_); (case side1 => exact Tr.Is.below HT1.out bX); (case side2 => exact cX HR0.out); (case side3 => exact HC0.out); rintro e w32 ⟨rfl, hb⟩; replace HB := aK (bSp bX hb); clear hb) | (go_at_call 25; (with_reducible refine (w12_lefts.calls k a1 _ _ l0 (⟨#[66]⟩ : ByteArray) t106 _ ?side1 ?side2 ?side3 A13.out).mono ?_); (case side1 => exact Tr.Is.below HT1.out bX); (case side2 => exact cX HR0.out); (case side3 => exact HC0.out); rintro e w33 ⟨rfl, hb⟩; replace HB := aK (bSp bX hb); clear hb) | (go_at_call 25; (with_reducible refine (w12_lefts.calls k a1 _ _ l0 (⟨#[120]⟩ : ByteArray) t107 _ ?side1 ?side2 ?side3 A15.out).mono ?_); (case side1 => exact Tr.Is.below HT1.out bX); (case side2 => exact cX HR0.out); (case side3 => exact HC0.out); rintro e w34 ⟨rfl, hb⟩; replace HB := aK (bSp bX hb); clear hb) | (go_at_call 25; (with_reducible refine (w12_lefts.calls k a1 _ _ l0 (⟨#[83, 97, 110, 100]⟩ : ByteArray) t108 _ ?side1 ?side2 ?side3 A17.out).mono ?_); (case side1 => exact Tr.Is.below HT1.out bX); (case side2 => exact cX HR0.out); (case side3 => exact HC0.out); rintro e w35 ⟨rfl, hb⟩; replace HB := aK (bSp bX hb); clear hb) | (go_at_call 25; (with_reducible refine (w12_lefts.calls k a1 _ _ l0 (⟨#[115, 97, 110, 68]⟩ : ByteArray) t109 _ ?side1 ?side2 ?side3 A19.out).mono ?_); (case side1 => exact Tr.Is.below HT1.out bX); (case side2 => exact cX HR0.out); (case side3 => exact HC0.out); rintro e w36 ⟨rfl, hb⟩; replace HB := aK (bSp bX hb); clear hb) | (go_at_call 25; (with_reducible refine (w12_lefts.calls k a1 _ _ l0 (⟨#[83, 65, 78, 100]⟩ : ByteArray) t110 _ ?side1 ?side2 ?side3 A21.out).mono ?_); (case side1 => exact Tr.Is.below HT1.out bX); (case side2 => exact cX HR0.out); (case side3 => exact HC0.out); rintro e w37 ⟨rfl, hb⟩; replace HB := aK (bSp bX hb); clear hb) | (go_at_call 25; (with_reducible refine (w12_lefts.calls k a1 _ _ l0 (⟨#[97, 49, 98, 50]⟩ : ByteArray) t111 _ ?side1 ?side2 ?side3 A23.out).mono ?_); (case side1 => exact Tr.Is.below HT1.out bX); (case side2 => exact cX HR0.out); (case side3 => exact HC0.out); rintro e w38 ⟨rfl, hb⟩; replace HB := aK (bSp bX hb); clear hb) | (go_at_call 25; (with_reducible refine (w12_lefts.calls k a1 _ _ l0 (⟨#[49, 50, 46, 53]⟩ : ByteArray) t112 _ ?side1 ?side2 ?side3 A25.out).mono ?_); (case side1 => exact Tr.Is.below HT1.out bX); (case side2 => exact cX HR0.out); (case side3 => exact HC0.out); rintro e w39 ⟨rfl, hb⟩; replace HB := aK (bSp bX hb); clear hb) | (go_at_call 25; (with_reducible refine (w12_lefts.calls k a1 _ _ l0 (⟨#[43, 101, 98, 117, 116, 126, 101]⟩ : ByteArray) t113 _ ?side1 ?side2 ?side3 A27.out).mono ?_); (case side1 => exact Tr.Is.below HT1.out bX); (case side2 => exact cX HR0.out); (case side3 => exact HC0.out); rintro e w40 ⟨rfl, hb⟩; replace HB := aK (bSp bX hb); clear hb))
 go_ret
 exact ⟨eX, bSp HB00.out bX⟩
end Go.Proofs.YtbpbniemjjhecaaGreat.PChk
end
section
namespace Go.Proofs.YtbpbniemjjhecaaGreat.G
set_option linter.unusedVariables false
open Go.RowKit Go.Maps Go.Proofs.YtbpbniemjjhecaaGreat.GM Go.Proofs.YtbpbniemjjhecaaGreat.GT Go.Proofs.YtbpbniemjjhecaaGreat.PChk Go.Proofs.YtbpbniemjjhecaaGreat.PureC Go.Proofs.YtbpbniemjjhecaaGreatW.PrintWords Go.Proofs.YtbpbniemjjhecaaGreatW.PrintLast Go.Proofs.YtbpbniemjjhecaaGreatW.PrintMore
set_option maxRecDepth 100000 in
theorem awake12_is (v : Value) : awake12.f 60 baseL ⟨v, some (some baseL)⟩ = some true := by kernel_rfl
def w12_awake.f : Option Bool := some true
theorem w12_awake.calls (r : Bool) (w : World) (h : w12_awake.f = some r) :
  Calls Tryz.prog 8 #[] w fun e w' => e = .returned (.bool r) ∧ Below w.heap.size w w' := by
 obtain rfl := Option.some.inj h
 exact awake12.calls 60 true w awake12_is rfl
end Go.Proofs.YtbpbniemjjhecaaGreat.G
end
