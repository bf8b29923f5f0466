import Derived.Test.YtbpbniemjjhecaaGreatZPChk0
import Derived.Test.YtbpbniemjjhecaaGreatZPChk7
import Derived.Test.YtbpbniemjjhecaaGreatZPChk17
section
namespace Go.Proofs.YtbpbniemjjhecaaGreat.PChk
open Go.RowKit Go.Proofs.YtbpbniemjjhecaaGreat.G Go.Proofs.YtbpbniemjjhecaaGreatW.PrintWords Go.Proofs.YtbpbniemjjhecaaGreatW.PrintLast Go.Proofs.YtbpbniemjjhecaaGreatW.PrintMore
attribute [local go_sem] max2_int min2_int max_two min_two max_three min_three max_four min_four
set_option linter.unusedVariables false
set_option linter.unusedSimpArgs false
def r1_Low.l0 : Nat → ByteArray → List Int → Int → Option (ByteArray)
 | 0, _, _, _ => none
 | k + 1, x0, x3, x4 => if x4 < (x0.size : Int) then (if 0 ≤ x4 then ((r1_Lower.f k (bt x0 x4)).bind fun t306 => (if x3.length < 140737488355328 then (r1_Low.l0 k x0 (x3 ++ [t306]) (wrap64 (x4 + 1))) else (none))) else (none)) else (some (strOfNums x3))
def r1_Low.f (k : Nat) (a0 : ByteArray) : Option (ByteArray) := r1_Low.l0 k a0 ([] : List Int) 0
def r1_Letter.f (k : Nat) (a0 : Int) : Option (Bool) := (r1_Class.f k a0).bind fun t310 => (if t310 = 1 then (some true) else ((r1_Class.f k a0).bind fun t311 => (some (t311 == 2))))
mutual
def r1_Case.l0 : Nat → ByteArray → Int → Int → Option (Int)
 | 0, _, _, _ => none
 | k + 1, x0, x3, x4 => if x4 < (x0.size : Int) then (if 0 ≤ x4 then ((r1_Letter.f k (bt x0 x4)).bind fun t312 => (if t312 = true then ((r1_Class.f k (bt x0 x4)).bind fun t313 => (if t313 = 2 then (r1_Case.l0 k x0 (wrap64 (x3 + 1)) (wrap64 (x4 + 1))) else (r1_Case.l0 k x0 x3 (wrap64 (x4 + 1))))) else (some 0))) else (none)) else (if (x0.size : Int) = 0 then (some 0) else (if x3 = 0 then (some 1) else (if x3 = 1 then (if 0 < (x0.size : Int) then ((r1_Class.f k (bt x0 0)).bind fun t314 => (r1_Case.j1 k x0 x3 (t314 == 2))) else (none)) else (r1_Case.j1 k x0 x3 false))))
def r1_Case.j1 : Nat → ByteArray → Int → Bool → Option (Int)
 | 0, _, _, _ => none
 | k + 1, x0, x3, x35 => if x35 = true then (some 2) else (if x3 = (x0.size : Int) then (some 3) else (some 4))
end
def r1_Case.f (k : Nat) (a0 : ByteArray) : Option (Int) := r1_Case.l0 k a0 0 0
def r12_rule.f (k : Nat) (l0 : List (S50)) (a1 : Int) (a2 : ByteArray) : Option (Int) := (r10_Find.f k l0 a1 a2).bind fun bt315 => (some bt315.1)
end Go.Proofs.YtbpbniemjjhecaaGreat.PChk
end
section
namespace Go.Proofs.YtbpbniemjjhecaaGreat.PChk
open Go.RowKit Go.Proofs.YtbpbniemjjhecaaGreat.G Go.Proofs.YtbpbniemjjhecaaGreatW.PrintWords Go.Proofs.YtbpbniemjjhecaaGreatW.PrintLast Go.Proofs.YtbpbniemjjhecaaGreatW.PrintMore
attribute [local go_sem] max2_int min2_int max_two min_two max_three min_three max_four min_four
set_option linter.unusedVariables false
set_option linter.unusedSimpArgs false
mutual
def r12_Word.l0 : Nat → List (S50) → List (S42) → Int → Option ((List (S48)) × Bool)
 | 0, _, _, _ => none
 | k + 1, x0, x1, x6 => if x6 < (x1.length : Int) then (if 0 ≤ x6 then ((r12_letter.f k ((rd_T42 x1 x6).f0) ((rd_T42 x1 x6).f1) ((rd_T42 x1 x6).f2)).bind fun t318 => (if t318 = true then (r12_Word.l0 k x0 x1 (wrap64 (x6 + 1))) else (some (([] : List (S48)), false)))) else (none)) else ((r12_Text.f k x1).bind fun t319 => ((r1_Low.f k t319).bind fun t320 => ((r10_Find.f k x0 5 t320).bind fun bt321 => ((r1_Case.f k t319).bind fun t323 => (if bt321.2 = true then (if t323 = 0 then (r12_Word.j1 k x0 t319 bt321.1 t323 true) else (r12_Word.j1 k x0 t319 bt321.1 t323 (t323 == 4))) else (r12_Word.j1 k x0 t319 bt321.1 t323 true))))))
def r12_Word.j1 : Nat → List (S50) → ByteArray → Int → Int → Bool → Option ((List (S48)) × Bool)
 | 0, _, _, _, _, _ => none
 | k + 1, x0, x7, x8, x10, x44 => if x44 = true then (some (([] : List (S48)), false)) else (if x10 = 1 then (some ((([(⟨x8, 0, (x7.size : Int)⟩ : S48)] : List (S48))), true)) else (if x10 = 2 then ((r12_rule.f k x0 8 (⟨#[99, 97, 112]⟩ : ByteArray)).bind fun t328 => (some ((([(⟨t328, 0, 0⟩ : S48), (⟨x8, 0, (x7.size : Int)⟩ : S48)] : List (S48))), true))) else ((r12_rule.f k x0 8 (⟨#[99, 97, 112, 115]⟩ : ByteArray)).bind fun t332 => (some ((([(⟨t332, 0, 0⟩ : S48), (⟨x8, 0, (x7.size : Int)⟩ : S48)] : List (S48))), true)))))
end
def r12_Word.f (k : Nat) (l0 : List (S50)) (l1 : List (S42)) : Option ((List (S48)) × Bool) := r12_Word.l0 k l0 l1 0
def r12_Mark.j0 : Nat → Bool → Int → Int → Int → Option (ByteArray)
 | 0, _, _, _, _ => none
 | k + 1, x15, x337000, x337001, x337002 => if x15 = true then (some (⟨#[]⟩ : ByteArray)) else (if x337000 = 2 then (some (strOfNums (([x337001, 43] : List Int)))) else (if x337000 = 3 then (some (strOfNums (([x337001, 45] : List Int)))) else (some (⟨#[]⟩ : ByteArray))))
def r12_Mark.f (k : Nat) (a0_0 : Int) (a0_1 : Int) (a0_2 : Int) : Option (ByteArray) := if a0_1 = 101 then (r12_Mark.j0 k false a0_0 a0_1 a0_2) else (if a0_1 = 115 then (r12_Mark.j0 k false a0_0 a0_1 a0_2) else (r12_Mark.j0 k (a0_1 != 110) a0_0 a0_1 a0_2))
def r11_Run.f (k : Nat) (a0 : ByteArray) : Option (Bool) := (r1_Case.f k a0).bind fun t343 => (some (t343 == 1))
end Go.Proofs.YtbpbniemjjhecaaGreat.PChk
end
section
namespace Go.Proofs.YtbpbniemjjhecaaGreat.PChk
open Go.RowKit Go.Proofs.YtbpbniemjjhecaaGreat.G Go.Proofs.YtbpbniemjjhecaaGreatW.PrintWords Go.Proofs.YtbpbniemjjhecaaGreatW.PrintLast Go.Proofs.YtbpbniemjjhecaaGreatW.PrintMore
attribute [local go_sem] max2_int min2_int max_two min_two max_three min_three max_four min_four
set_option linter.unusedVariables false
set_option linter.unusedSimpArgs false
set_option maxHeartbeats 8000000
set_option maxRecDepth 100000
def r12_Toks.l0 : Nat → List (S42) → List (S42) → Int → Option (Bool)
 | 0, _, _, _ => none
 | k + 1, x0, x1, x5 => if x5 < (x0.length : Int) then (if 0 ≤ x5 then (if x5 < (x1.length : Int) then (if ((rd_T42 x0 x5).f0) = ((rd_T42 x1 x5).f0) then (if ((rd_T42 x0 x5).f1) = ((rd_T42 x1 x5).f1) then (r12_Toks.l0 k x0 x1 (wrap64 (x5 + 1))) else (some false)) else (some false)) else (none)) else (none)) else (some true)
def r12_Toks.f (k : Nat) (l0 : List (S42)) (l1 : List (S42)) : Option (Bool) := if (l0.length : Int) = (l1.length : Int) then (r12_Toks.l0 k l0 l1 0) else (some false)
mutual
def r12_Read.l0 : Nat → ByteArray → List (S42) → Int → Option ((List (S42)))
 | 0, _, _, _ => none
 | k + 1, x0, x3, x4 => if x4 < (x0.size : Int) then (if 0 ≤ x4 then (if (bt x0 x4) = 43 then (r12_Read.j1 k x0 x3 x4 (decide ((wrap64 (x4 + 1)) < (x0.size : Int)))) else (if (bt x0 x4) = 126 then (r12_Read.j1 k x0 x3 x4 (decide ((wrap64 (x4 + 1)) < (x0.size : Int)))) else (r12_Read.j1 k x0 x3 x4 false))) else (none)) else (some x3)
def r12_Read.j1 : Nat → ByteArray → List (S42) → Int → Bool → Option ((List (S42)))
 | 0, _, _, _, _ => none
 | k + 1, x0, x3, x4, x28 => if x28 = true then (if 0 ≤ x4 then (if x4 < (x0.size : Int) then (if (bt x0 x4) = 126 then (if 0 ≤ (wrap64 (x4 + 1)) then (if (wrap64 (x4 + 1)) < (x0.size : Int) then (if x3.length < 5864062014805 then (r12_Read.l0 k x0 (x3 ++ [(⟨3, bt x0 (wrap64 (x4 + 1)), 0⟩ : S42)]) (wrap64 ((wrap64 (x4 + 1)) + 1))) else (none)) else (none)) else (none)) else (if 0 ≤ (wrap64 (x4 + 1)) then (if (wrap64 (x4 + 1)) < (x0.size : Int) then (if x3.length < 5864062014805 then (r12_Read.l0 k x0 (x3 ++ [(⟨2, bt x0 (wrap64 (x4 + 1)), 0⟩ : S42)]) (wrap64 ((wrap64 (x4 + 1)) + 1))) else (none)) else (none)) else (none))) else (none)) else (none)) else (if 0 ≤ x4 then (if x4 < (x0.size : Int) then (if x3.length < 5864062014805 then (r12_Read.l0 k x0 (x3 ++ [(⟨1, bt x0 x4, 0⟩ : S42)]) (wrap64 (x4 + 1))) else (none)) else (none)) else (none))
end
def r12_Read.f (k : Nat) (a0 : ByteArray) : Option ((List (S42))) := r12_Read.l0 k a0 ([] : List (S42)) 0
theorem r12_Read.calls (k : Nat) (a0 : ByteArray) (r : List (S42)) (w : World) (h : r12_Read.f k a0 = some r) :
  Calls Tryz.prog 65 #[.string a0] w fun e w' => ∃ v0_ : Value, e = .returned (v0_) ∧ Kd.R k42 42 w' w.heap.size (fun _ => True) v0_ r ∧ Below w.heap.size w w' := by
 have hu42 := Tryz.underlying42
 have HB := aK (Below.refl w.heap.size w)
 have H : (r12_Read.l0 k a0 ([] : List (S42)) 0) = some r := h
 clear h
 have H' := aK H
 clear H
 go_enter Tryz.func65, Tryz.ntmps65
 go_wp2
 go_loopg [3, 4] k (fun kq v3 v4 w' => ∃ (x3_1 : List (S42)) (x4_1 : Int), v4 = .int .i64 x4_1 ∧ Aside0 (r12_Read.l0 kq a0 x3_1 x4_1 = some r) ∧ Aside0 (kq ≤ k) ∧ Aside0 (Kd.R k42 42 w' w.heap.size (fun _ => True) v3 x3_1) ∧ Aside0 (Below w.heap.size w w'))
 case atStart => exact ⟨(([] : List (S42))), (0), sX, H', ⟨Nat.le_refl _⟩, ⟨by first | exact Kd.R_nil _ _ _ _ _ | exact Kd.N_nil _ _ _ _ _ | exact Kd.V_nil _ _ _ _ _ | exact Kd.Q_nil _ _ _ _ _ | exact Kd.S_nil _ _ _ _ _⟩, ⟨bX⟩⟩
 case round =>
  clear H'
  obtain ⟨x3_1, x4_1, rfl, HA, HK1, HO_3, HB⟩ := hrel
  cases gk with
  | zero => exact absurd HA.out (by simp [r12_Read.l0])
  | succ k1 =>
   have H := HA.out; clear HA
   simp only [r12_Read.l0] at H
   by_cases c2 : x4_1 < (a0.size : Int)
   rotate_left
   ·
    rw [if_neg c2] at H; have c2b0 : decide (x4_1 < (a0.size : Int)) = false := decide_eq_false c2; clear c2; obtain rfl := oI H
    go_wp2
    go_ret
    exact ⟨_, eX, rX HO_3.out, bX⟩
   rw [if_pos c2] at H; have c2b0 : decide (x4_1 < (a0.size : Int)) = true := decide_eq_true c2; clear c2; have HC3 := aK H; clear H
   go_upto_region 5 with (fail)
   go_cut [28] (fun v28 wc => ∃ (kq : Nat) (x28_2 : Bool), v28 = .bool x28_2 ∧ Aside0 (r12_Read.j1 kq a0 x3_1 x4_1 x28_2 = some r) ∧ Aside0 (kq ≤ k1) ∧ Aside0 (Kd.R k42 42 wc w.heap.size (fun _ => True) u3 x3_1) ∧ Aside0 (Below w.heap.size w wc))
   case first =>
    have H := HC3.out; clear HC3
    by_cases c4 : 0 ≤ x4_1
    rotate_left
    ·
     rw [if_neg c4] at H
     exact absurd H (by simp)
    rw [if_pos c4] at H; have c4b0 : decide (0 ≤ x4_1) = true := decide_eq_true c4; clear c4
    (first | rw [c4b0] | (simp only [i64_w, i32_w]; rw [c4b0]) | skip)
    by_cases c6 : (bt a0 x4_1) = 43
    rotate_left
    ·
     rw [if_neg c6] at H; obtain ⟨c6b0, c6b1⟩ := bN c6
     by_cases c8 : (bt a0 x4_1) = 126
     rotate_left
     ·
      rw [if_neg c8] at H; obtain ⟨c8b0, c8b1⟩ := bN c8; have H' := aK H; clear H; have p5 : 0 ≤ (x4_1 : Int) := oA; have q5 : x4_1 < (a0.size : Int) := oA
      have hx5 := bt_at a0 x4_1
      replace p5 := eq_true p5; replace q5 := eq_true q5; have p7 : 0 ≤ (x4_1 : Int) := oA; have q7 : x4_1 < (a0.size : Int) := oA
      have hx7 := bt_at a0 x4_1
      replace p7 := eq_true p7; replace q7 := eq_true q7
      go_wp2
      go_meet
      case rel => exact ⟨_, (false), sX, H', ⟨by have := HK1.out; first | omega | exact Nat.le_refl _⟩, ⟨rX HO_3.out⟩, ⟨bX⟩⟩
     rw [if_pos c8] at H; obtain ⟨c8b0, c8b1⟩ := bY c8; clear c8; have H' := aK H; clear H; have p5 : 0 ≤ (x4_1 : Int) := oA; have q5 : x4_1 < (a0.size : Int) := oA
     have hx5 := bt_at a0 x4_1
     replace p5 := eq_true p5; replace q5 := eq_true q5; have p7 : 0 ≤ (x4_1 : Int) := oA; have q7 : x4_1 < (a0.size : Int) := oA
     have hx7 := bt_at a0 x4_1
     replace p7 := eq_true p7; replace q7 := eq_true q7
     go_wp2
     go_meet
     case rel => exact ⟨_, (decide ((wrap64 (x4_1 + 1)) < (a0.size : Int))), sX, H', ⟨by have := HK1.out; first | omega | exact Nat.le_refl _⟩, ⟨rX HO_3.out⟩, ⟨bX⟩⟩
    rw [if_pos c6] at H; obtain ⟨c6b0, c6b1⟩ := bY c6; clear c6; have H' := aK H; clear H; have p5 : 0 ≤ (x4_1 : Int) := oA; have q5 : x4_1 < (a0.size : Int) := oA
    have hx5 := bt_at a0 x4_1
    replace p5 := eq_true p5; replace q5 := eq_true q5
    go_wp2
    go_meet
    case rel => exact ⟨_, (decide ((wrap64 (x4_1 + 1)) < (a0.size : Int))), sX, H', ⟨by have := HK1.out; first | omega | exact Nat.le_refl _⟩, ⟨rX HO_3.out⟩, ⟨bX⟩⟩
   case rest =>
    clear HC3
    try clear c2
    try clear c2b0
    try clear p2
    try clear c4
    try clear c4b0
    try clear p5
    try clear q5
    try clear hx5
    try clear c6
    try clear c6b0
    try clear c6b1
    try clear p6
    try clear p7
    try clear q7
    try clear hx7
    try clear c8
    try clear c8b0
    try clear c8b1
    try clear p5
    try clear p7
    try clear q5
    try clear q7
    obtain ⟨kq, x28_2, rfl, HA, HJ2, HO_3, HB⟩ := hcut
    cases kq with
    | zero => exact absurd HA.out (by simp [r12_Read.j1])
    | succ kj2 =>
     have H := HA.out; clear HA
     simp only [r12_Read.j1] at H
     by_cases c9 : x28_2 = true
     rotate_left
     ·
      replace c9 := Bool.eq_false_iff.mpr c9; subst c9
      have H1 : (if 0 ≤ x4_1 then (if x4_1 < (a0.size : Int) then (if x3_1.length < 5864062014805 then (r12_Read.l0 kj2 a0 (x3_1 ++ [(⟨1, bt a0 x4_1, 0⟩ : S42)]) (wrap64 (x4_1 + 1))) else (none)) else (none)) else (none)) = some r := by rw [if_neg (show ¬ (false = true) by decide)] at H; exact H
      clear H
      have H := H1
      clear H1
      by_cases c26 : 0 ≤ x4_1
      rotate_left
      ·
       rw [if_neg c26] at H
       exact absurd H (by simp)
      rw [if_pos c26] at H; have c26b0 : decide (0 ≤ x4_1) = true := decide_eq_true c26; clear c26
      by_cases c27 : x4_1 < (a0.size : Int)
      rotate_left
      ·
       rw [if_neg c27] at H
       exact absurd H (by simp)
      rw [if_pos c27] at H; have c27b0 : decide (x4_1 < (a0.size : Int)) = true := decide_eq_true c27; clear c27
      by_cases c29 : x3_1.length < 5864062014805
      rotate_left
      ·
       rw [if_neg c29] at H
       exact absurd H (by simp)
      rw [if_pos c29] at H; have LMc29 := aK c29; clear c29
      obtain ⟨y516, hy516⟩ : ∃ y_ : List (S42), y_ = (x3_1 ++ [(⟨1, bt a0 x4_1, 0⟩ : S42)]) := ⟨_, rfl⟩
      replace H : (r12_Read.l0 kj2 a0 y516 (wrap64 (x4_1 + 1))) = some r := by first | (rw [hy516]; with_reducible exact H) | (have H2_ := (Option.bind_some _ _).symm.trans H; rw [hy516]; with_reducible exact H2_) | (have H2_ := (Option.bind_some _ _).symm.trans H; with_reducible exact H2_) | with_reducible exact H | (rw [hy516]; exact H) | exact H
      have Ny516 := aK hy516; clear hy516; have H' := aK H; clear H; have p28 : 0 ≤ (x4_1 : Int) := oA; have q28 : x4_1 < (a0.size : Int) := oA
      have hx28 := bt_at a0 x4_1
      replace p28 := eq_true p28; replace q28 := eq_true q28
      go_wp2_with (first | ((with_reducible refine gate_builtin (b := .append) (xs := #[.tmp 44, .tmp 49]) rfl ?_); (try (refine gate_guard (by rfl) ?_; dsimp only)); at_builtin; refine Kd.R_append k42 (w0 := w) w.heap.size rfl (.tmp 44) (.tmp 49) 23 42 (.agg #[(.int .i64 0), (.int .u8 0), (.int .i64 0)]) 24 rfl Tryz.underlying23 info42 rfl (by decide) (by omega) u3 x3_1 (⟨1, bt a0 x4_1, 0⟩ : S42) [.int .i64 1, .int .u8 (bt a0 x4_1), .int .i64 0] (fun _ => True) (fun _ => False) rfl rfl ?aP (fun _ hk => hk.elim) ?aF ?aO ?aB ?aS ?aL ?_; (case aP => exact k42_mkM _ _ _ (⟨1, bt a0 x4_1, 0⟩ : S42)); (case aB => exact bX); (case aF => exact (fun _ _ => trivial)); (case aO => exact (rX HO_3.out)); (case aS => exact (bSz bX)); (case aL => have := LMc29.out; omega); intro v517 w30 ho hb hg hat; rw [← Ny516.out] at ho; replace HB := aK (hb); have HO518 := aK (ho); clear HO_3; clear ho hb hg hat))
      go_roundg kj2
      case measure => have := HK1.out; have := HJ2.out; omega
      case rel => exact ⟨(y516), (wrap64 (x4_1 + 1)), sX, H', ⟨by have := HK1.out; have := HJ2.out; omega⟩, ⟨rX HO518.out⟩, ⟨bX⟩⟩
     subst c9
     have H1 : (if 0 ≤ x4_1 then (if x4_1 < (a0.size : Int) then (if (bt a0 x4_1) = 126 then (if 0 ≤ (wrap64 (x4_1 + 1)) then (if (wrap64 (x4_1 + 1)) < (a0.size : Int) then (if x3_1.length < 5864062014805 then (r12_Read.l0 kj2 a0 (x3_1 ++ [(⟨3, bt a0 (wrap64 (x4_1 + 1)), 0⟩ : S42)]) (wrap64 ((wrap64 (x4_1 + 1)) + 1))) else (none)) else (none)) else (none)) else (if 0 ≤ (wrap64 (x4_1 + 1)) then (if (wrap64 (x4_1 + 1)) < (a0.size : Int) then (if x3_1.length < 5864062014805 then (r12_Read.l0 kj2 a0 (x3_1 ++ [(⟨2, bt a0 (wrap64 (x4_1 + 1)), 0⟩ : S42)]) (wrap64 ((wrap64 (x4_1 + 1)) + 1))) else (none)) else (none)) else (none))) else (none)) else (none)) = some r := by rw [if_pos rfl] at H; exact H
     clear H
     have H := H1
     clear H1
     by_cases c10 : 0 ≤ x4_1
     rotate_left
     ·
      rw [if_neg c10] at H
      exact absurd H (by simp)
     rw [if_pos c10] at H; have c10b0 : decide (0 ≤ x4_1) = true := decide_eq_true c10; clear c10
     by_cases c11 : x4_1 < (a0.size : Int)
     rotate_left
     ·
      rw [if_neg c11] at H
      exact absurd H (by simp)
     rw [if_pos c11] at H; have c11b0 : decide (x4_1 < (a0.size : Int)) = true := decide_eq_true c11; clear c11
     by_cases c13 : (bt a0 x4_1) = 126
     rotate_left
     ·
      rw [if_neg c13] at H; obtain ⟨c13b0, c13b1⟩ := bN c13
      obtain ⟨ji20, hji20⟩ : ∃ j_ : Int, (wrap64 (x4_1 + 1)) = j_ := ⟨_, rfl⟩
      replace H : (if 0 ≤ (ji20) then (if (ji20) < (a0.size : Int) then (if x3_1.length < 5864062014805 then (r12_Read.l0 kj2 a0 (x3_1 ++ [(⟨2, bt a0 (ji20), 0⟩ : S42)]) (wrap64 ((ji20) + 1))) else (none)) else (none)) else (none)) = some r := by first | (rw [hji20] at H; exact H) | (simp only [hji20] at H ⊢; exact H)
      have hji20w : (IntKind.i64.wrap (x4_1 + 1)) = ji20 := (i64_w _).trans hji20
      by_cases c21 : 0 ≤ (ji20)
      rotate_left
      ·
       rw [if_neg c21] at H
       exact absurd H (by simp)
      rw [if_pos c21] at H; have c21b0 : decide (0 ≤ (ji20)) = true := decide_eq_true c21; clear c21
      by_cases c22 : (ji20) < (a0.size : Int)
      rotate_left
      ·
       rw [if_neg c22] at H
       exact absurd H (by simp)
      rw [if_pos c22] at H; have c22b0 : decide ((ji20) < (a0.size : Int)) = true := decide_eq_true c22; clear c22
      by_cases c24 : x3_1.length < 5864062014805
      rotate_left
      ·
       rw [if_neg c24] at H
       exact absurd H (by simp)
      rw [if_pos c24] at H; have LMc24 := aK c24; clear c24
      obtain ⟨y513, hy513⟩ : ∃ y_ : List (S42), y_ = (x3_1 ++ [(⟨2, bt a0 (ji20), 0⟩ : S42)]) := ⟨_, rfl⟩
      replace H : (r12_Read.l0 kj2 a0 y513 (wrap64 ((ji20) + 1))) = some r := by first | (rw [hy513]; with_reducible exact H) | (have H2_ := (Option.bind_some _ _).symm.trans H; rw [hy513]; with_reducible exact H2_) | (have H2_ := (Option.bind_some _ _).symm.trans H; with_reducible exact H2_) | with_reducible exact H | (rw [hy513]; exact H) | exact H
      have Ny513 := aK hy513; clear hy513; have H' := aK H; clear H; have p12 : 0 ≤ (x4_1 : Int) := oA; have q12 : x4_1 < (a0.size : Int) := oA
      have hx12 := bt_at a0 x4_1
      replace p12 := eq_true p12; replace q12 := eq_true q12; have p23 : 0 ≤ ((ji20) : Int) := oA; have q23 : (ji20) < (a0.size : Int) := oA
      have hx23 := bt_at a0 (ji20)
      replace p23 := eq_true p23; replace q23 := eq_true q23
      go_wp2_with (first | ((with_reducible refine gate_builtin (b := .append) (xs := #[.tmp 33, .tmp 40]) rfl ?_); (try (refine gate_guard (by rfl) ?_; dsimp only)); at_builtin; refine Kd.R_append k42 (w0 := w) w.heap.size rfl (.tmp 33) (.tmp 40) 23 42 (.agg #[(.int .i64 0), (.int .u8 0), (.int .i64 0)]) 24 rfl Tryz.underlying23 info42 rfl (by decide) (by omega) u3 x3_1 (⟨2, bt a0 (ji20), 0⟩ : S42) [.int .i64 2, .int .u8 (bt a0 (ji20)), .int .i64 0] (fun _ => True) (fun _ => False) rfl rfl ?aP (fun _ hk => hk.elim) ?aF ?aO ?aB ?aS ?aL ?_; (case aP => exact k42_mkM _ _ _ (⟨2, bt a0 (ji20), 0⟩ : S42)); (case aB => exact bX); (case aF => exact (fun _ _ => trivial)); (case aO => exact (rX HO_3.out)); (case aS => exact (bSz bX)); (case aL => have := LMc24.out; omega); intro v514 w25 ho hb hg hat; rw [← Ny513.out] at ho; replace HB := aK (hb); have HO515 := aK (ho); clear HO_3; clear ho hb hg hat))
      go_roundg kj2
      case measure => have := HK1.out; have := HJ2.out; omega
      case rel => exact ⟨(y513), (wrap64 ((ji20) + 1)), (by first | rfl | (simp; done) | (simp only [← hji20] <;> (first | rfl | simp)) | (simp [*]; done)), H', ⟨by have := HK1.out; have := HJ2.out; omega⟩, ⟨rX HO515.out⟩, ⟨bX⟩⟩
     rw [if_pos c13] at H; obtain ⟨c13b0, c13b1⟩ := bY c13; clear c13
     obtain ⟨ji14, hji14⟩ : ∃ j_ : Int, (wrap64 (x4_1 + 1)) = j_ := ⟨_, rfl⟩
     replace H : (if 0 ≤ (ji14) then (if (ji14) < (a0.size : Int) then (if x3_1.length < 5864062014805 then (r12_Read.l0 kj2 a0 (x3_1 ++ [(⟨3, bt a0 (ji14), 0⟩ : S42)]) (wrap64 ((ji14) + 1))) else (none)) else (none)) else (none)) = some r := by first | (rw [hji14] at H; exact H) | (simp only [hji14] at H ⊢; exact H)
     have hji14w : (IntKind.i64.wrap (x4_1 + 1)) = ji14 := (i64_w _).trans hji14
     by_cases c15 : 0 ≤ (ji14)
     rotate_left
     ·
      rw [if_neg c15] at H
      exact absurd H (by simp)
     rw [if_pos c15] at H; have c15b0 : decide (0 ≤ (ji14)) = true := decide_eq_true c15; clear c15
     by_cases c16 : (ji14) < (a0.size : Int)
     rotate_left
     ·
      rw [if_neg c16] at H
      exact absurd H (by simp)
     rw [if_pos c16] at H; have c16b0 : decide ((ji14) < (a0.size : Int)) = true := decide_eq_true c16; clear c16
     by_cases c18 : x3_1.length < 5864062014805
     rotate_left
     ·
      rw [if_neg c18] at H
      exact absurd H (by simp)
     rw [if_pos c18] at H; have LMc18 := aK c18; clear c18
     obtain ⟨y510, hy510⟩ : ∃ y_ : List (S42), y_ = (x3_1 ++ [(⟨3, bt a0 (ji14), 0⟩ : S42)]) := ⟨_, rfl⟩
     replace H : (r12_Read.l0 kj2 a0 y510 (wrap64 ((ji14) + 1))) = some r := by first | (rw [hy510]; with_reducible exact H) | (have H2_ := (Option.bind_some _ _).symm.trans H; rw [hy510]; with_reducible exact H2_) | (have H2_ := (Option.bind_some _ _).symm.trans H; with_reducible exact H2_) | with_reducible exact H | (rw [hy510]; exact H) | exact H
     have Ny510 := aK hy510; clear hy510; have H' := aK H; clear H; have p12 : 0 ≤ (x4_1 : Int) := oA; have q12 : x4_1 < (a0.size : Int) := oA
     have hx12 := bt_at a0 x4_1
     replace p12 := eq_true p12; replace q12 := eq_true q12; have p17 : 0 ≤ ((ji14) : Int) := oA; have q17 : (ji14) < (a0.size : Int) := oA
     have hx17 := bt_at a0 (ji14)
     replace p17 := eq_true p17; replace q17 := eq_true q17
     go_wp2_with (first | ((with_reducible refine gate_builtin (b := .append) (xs := #[.tmp 33, .tmp 40]) rfl ?_); (try (refine gate_guard (by rfl) ?_; dsimp only)); at_builtin; refine Kd.R_append k42 (w0 := w) w.heap.size rfl (.tmp 33) (.tmp 40) 23 42 (.agg #[(.int .i64 0), (.int .u8 0), (.int .i64 0)]) 24 rfl Tryz.underlying23 info42 rfl (by decide) (by omega) u3 x3_1 (⟨3, bt a0 (ji14), 0⟩ : S42) [.int .i64 3, .int .u8 (bt a0 (ji14)), .int .i64 0] (fun _ => True) (fun _ => False) rfl rfl ?aP (fun _ hk => hk.elim) ?aF ?aO ?aB ?aS ?aL ?_; (case aP => exact k42_mkM _ _ _ (⟨3, bt a0 (ji14), 0⟩ : S42)); (case aB => exact bX); (case aF => exact (fun _ _ => trivial)); (case aO => exact (rX HO_3.out)); (case aS => exact (bSz bX)); (case aL => have := LMc18.out; omega); intro v511 w19 ho hb hg hat; rw [← Ny510.out] at ho; replace HB := aK (hb); have HO512 := aK (ho); clear HO_3; clear ho hb hg hat))
     go_roundg kj2
     case measure => have := HK1.out; have := HJ2.out; omega
     case rel => exact ⟨(y510), (wrap64 ((ji14) + 1)), (by first | rfl | (simp; done) | (simp only [← hji14] <;> (first | rfl | simp)) | (simp [*]; done)), H', ⟨by have := HK1.out; have := HJ2.out; omega⟩, ⟨rX HO512.out⟩, ⟨bX⟩⟩
def r12_Check.l0 : Nat → List (S42) → Int → Option (Int)
 | 0, _, _ => none
 | k + 1, x0, x3 => if x3 < (x0.length : Int) then (if 0 ≤ x3 then ((r12_letter.f k ((rd_T42 x0 x3).f0) ((rd_T42 x0 x3).f1) ((rd_T42 x0 x3).f2)).bind fun t520 => (if t520 = true then (r12_Check.l0 k x0 (wrap64 (x3 + 1))) else ((r12_Is.f k ((rd_T42 x0 x3).f0) ((rd_T42 x0 x3).f1) ((rd_T42 x0 x3).f2) 3).bind fun t522 => (if t522 = true then (r12_Check.l0 k x0 (wrap64 (x3 + 1))) else ((r12_Is.f k ((rd_T42 x0 x3).f0) ((rd_T42 x0 x3).f1) ((rd_T42 x0 x3).f2) 4).bind fun t524 => (if t524 = true then (r12_Check.l0 k x0 (wrap64 (x3 + 1))) else ((r12_Mark.f k ((rd_T42 x0 x3).f0) ((rd_T42 x0 x3).f1) ((rd_T42 x0 x3).f2)).bind fun t526 => (if t526.toList = ([] : List UInt8) then (some 1) else (r12_Check.l0 k x0 (wrap64 (x3 + 1))))))))))) else (none)) else (some 0)
def r12_Check.f (k : Nat) (l0 : List (S42)) : Option (Int) := r12_Check.l0 k l0 0
end Go.Proofs.YtbpbniemjjhecaaGreat.PChk
end
