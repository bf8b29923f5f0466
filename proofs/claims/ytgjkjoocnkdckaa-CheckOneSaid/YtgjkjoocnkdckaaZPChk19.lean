-- Written by a program of this session (prt.py), out of the translation. Lean checks it.
import Derived.Test.YtgjkjoocnkdckaaZPChk0
import Derived.Test.YtgjkjoocnkdckaaZPChk2
namespace Go.Proofs.Ytgjkjoocnkdckaa.PChk
open Go.RowKit Go.Proofs.Ytgjkjoocnkdckaa.G Go.Proofs.YtgjkjoocnkdckaaW.PrintWords Go.Proofs.YtgjkjoocnkdckaaW.PrintLast Go.Proofs.YtgjkjoocnkdckaaW.PrintMore
attribute [local go_sem] max2_int min2_int max_two min_two max_three min_three max_four min_four   -- for this text's walks alone
set_option linter.unusedVariables false
set_option linter.unusedSimpArgs false
mutual
def w9_chosen.l0 : Nat → List (S23) → Int → List Int → List (S23) → Int → Option ((List (S23)) × ByteArray)
 | 0, _, _, _, _, _ => none
 | k + 1, x0, x1, x2, x8, x10 => if x10 < (x0.length : Int) then (if 0 ≤ x10 then ((check_In.f k ((rd_T23 x0 x10).f0) ((rd_T23 x0 x10).f1) ((rd_T23 x0 x10).f2) ((rd_T23 x0 x10).f3) ((rd_T23 x0 x10).f4) x1).bind fun t392 => (if t392 = true then (if x8.length < 2513169434916 then (w9_chosen.l0 k x0 x1 x2 (x8 ++ [(⟨(rd_T23 x0 x10).f0, (rd_T23 x0 x10).f1, (rd_T23 x0 x10).f2, (rd_T23 x0 x10).f3, (rd_T23 x0 x10).f4⟩ : S23)]) (wrap64 (x10 + 1))) else (none)) else (w9_chosen.l0 k x0 x1 x2 x8 (wrap64 (x10 + 1))))) else (none)) else (w9_chosen.l1 k x2 x8 ([] : List (S23)) (⟨#[]⟩ : ByteArray) 0)
def w9_chosen.l1 : Nat → List Int → List (S23) → List (S23) → ByteArray → Int → Option ((List (S23)) × ByteArray)
 | 0, _, _, _, _, _ => none
 | k + 1, x2, x8, x9, x11, x12 => if x12 < (x2.length : Int) then (if (x8.length : Int) > 0 then (if 0 ≤ x12 then (if (x8.length : Int) = 0 then (none) else (if 0 ≤ (Int.tmod (wrap64 (rd x2 x12)) (x8.length : Int)) then (if (Int.tmod (wrap64 (rd x2 x12)) (x8.length : Int)) < (x8.length : Int) then (if x9.length < 2513169434916 then (if x11.size + ((rd_T23 x8 (Int.tmod (wrap64 (rd x2 x12)) (x8.length : Int))).f2).size ≤ 9223372036854775807 then (w9_chosen.l1 k x2 x8 (x9 ++ [(⟨(rd_T23 x8 (Int.tmod (wrap64 (rd x2 x12)) (x8.length : Int))).f0, (rd_T23 x8 (Int.tmod (wrap64 (rd x2 x12)) (x8.length : Int))).f1, (rd_T23 x8 (Int.tmod (wrap64 (rd x2 x12)) (x8.length : Int))).f2, (rd_T23 x8 (Int.tmod (wrap64 (rd x2 x12)) (x8.length : Int))).f3, (rd_T23 x8 (Int.tmod (wrap64 (rd x2 x12)) (x8.length : Int))).f4⟩ : S23)]) (x11 ++ ((rd_T23 x8 (Int.tmod (wrap64 (rd x2 x12)) (x8.length : Int))).f2)) (wrap64 (x12 + 1))) else (none)) else (none)) else (none)) else (none))) else (none)) else (some (x9, x11))) else (some (x9, x11))
end
def w9_chosen.f (k : Nat) (l0 : List (S23)) (a1 : Int) (l2 : List Int) : Option ((List (S23)) × ByteArray) := w9_chosen.l0 k l0 a1 l2 ([] : List (S23)) 0
theorem w9_chosen.mono_l : ∀ k, (∀ y0 y1 y2 y3 y4, LeO (w9_chosen.l0 k y0 y1 y2 y3 y4) (w9_chosen.l0 (k + 1) y0 y1 y2 y3 y4)) ∧ (∀ y0 y1 y2 y3 y4, LeO (w9_chosen.l1 k y0 y1 y2 y3 y4) (w9_chosen.l1 (k + 1) y0 y1 y2 y3 y4))
 | 0 => ⟨fun _ _ _ _ _ r h => by simp [w9_chosen.l0] at h, fun _ _ _ _ _ r h => by simp [w9_chosen.l1] at h⟩
 | k + 1 => by
  obtain ⟨ih0, ih1⟩ := w9_chosen.mono_l k
  refine ⟨?_, ?_⟩
  ·
   intro y0 y1 y2 y3 y4
   unfold w9_chosen.l0
   repeat' first
   | (with_reducible exact ih0 _ _ _ _ _)
   | (with_reducible exact ih1 _ _ _ _ _)
   | (with_reducible exact check_In.mono _ _ _ _ _ _ _)
   | (with_reducible exact LeO.refl _)
   | (with_reducible exact LeO.none _)
   | (with_reducible refine LeO.ite ?_ ?_)
   | (with_reducible refine LeO.bind ?_ (fun _ => ?_))
   | exact ih0 _ _ _ _ _
   | exact ih1 _ _ _ _ _
   | exact check_In.mono _ _ _ _ _ _ _
   | exact LeO.none _
   | refine LeO.ite ?_ ?_
   | refine LeO.bind ?_ (fun _ => ?_)
  ·
   intro y0 y1 y2 y3 y4
   unfold w9_chosen.l1
   repeat' first
   | (with_reducible exact ih0 _ _ _ _ _)
   | (with_reducible exact ih1 _ _ _ _ _)
   | (with_reducible exact check_In.mono _ _ _ _ _ _ _)
   | (with_reducible exact LeO.refl _)
   | (with_reducible exact LeO.none _)
   | (with_reducible refine LeO.ite ?_ ?_)
   | (with_reducible refine LeO.bind ?_ (fun _ => ?_))
   | exact ih0 _ _ _ _ _
   | exact ih1 _ _ _ _ _
   | exact check_In.mono _ _ _ _ _ _ _
   | exact LeO.none _
   | refine LeO.ite ?_ ?_
   | refine LeO.bind ?_ (fun _ => ?_)
theorem w9_chosen.mono : ∀ a0 a1 a2 k, LeO (w9_chosen.f k a0 a1 a2) (w9_chosen.f (k + 1) a0 a1 a2) := by
 intro a0 a1 a2 k
 obtain ⟨ih0, ih1⟩ := w9_chosen.mono_l k
 unfold w9_chosen.f
 repeat' first
   | (with_reducible exact ih0 _ _ _ _ _)
   | (with_reducible exact ih1 _ _ _ _ _)
   | (with_reducible exact check_In.mono _ _ _ _ _ _ _)
   | (with_reducible exact LeO.refl _)
   | (with_reducible exact LeO.none _)
   | (with_reducible refine LeO.ite ?_ ?_)
   | (with_reducible refine LeO.bind ?_ (fun _ => ?_))
   | exact ih0 _ _ _ _ _
   | exact ih1 _ _ _ _ _
   | exact check_In.mono _ _ _ _ _ _ _
   | exact LeO.none _
   | refine LeO.ite ?_ ?_
   | refine LeO.bind ?_ (fun _ => ?_)
set_option maxHeartbeats 8000000 in
set_option maxRecDepth 100000 in
theorem w9_chosen.calls (k : Nat) (A0 : Option Addr) (c0 : Nat) (l0 : List (S23)) (a1 : Int) (A2 : Option Addr) (c2 : Nat) (l2 : List Int) (r1 : List (S23)) (r2 : ByteArray) (w : World) (hr0 : Kd.C k23 w A0 l0.length l0) (hc0 : l0.length ≤ c0) (hr2 : Kd.C (Kd.int .u8) w A2 l2.length l2) (hc2 : l2.length ≤ c2) (h : w9_chosen.f k l0 a1 l2 = some (r1, r2)) :
  Calls Try.prog 20 #[.slice A0 l0.length c0, .int .i64 a1, .slice A2 l2.length c2] w fun e w' => ∃ v0_ : Value, e = .returned (.tuple #[v0_, .string r2]) ∧ Kd.R k23 23 w' w.heap.size (fun _ => True) v0_ r1 ∧ Below w.heap.size w w' := by
 have hu23 := Try.underlying23
 have HR0 := aK hr0
 have HC0 := aK hc0
 clear hr0 hc0
 have HR2 := aK hr2
 have HC2 := aK hc2
 clear hr2 hc2
 have HB := aK (Below.refl w.heap.size w)
 have H : (w9_chosen.l0 k l0 a1 l2 ([] : List (S23)) 0) = some (r1, r2) := h
 clear h
 have H' := aK H
 clear H
 go_enter Try.func20, Try.ntmps20
 go_wp2
 go_loopg [8, 10] k (fun kq v8 v10 w' => ∃ (x8_1 : List (S23)) (x10_1 : Int), v10 = .int .i64 x10_1 ∧ Aside0 (w9_chosen.l0 kq l0 a1 l2 x8_1 x10_1 = some (r1, r2)) ∧ Aside0 (kq ≤ k) ∧ Aside0 (Kd.R k23 23 w' w.heap.size (fun _ => True) v8 x8_1) ∧ Aside0 (Below w.heap.size w w'))
 case atStart => exact ⟨(([] : List (S23))), (0), (by first | rfl | (simp; done) | (simp [*]; done)), H', ⟨Nat.le_refl _⟩, ⟨by first | exact Kd.R_nil _ _ _ _ _ | exact Kd.N_nil _ _ _ _ _ | exact Kd.V_nil _ _ _ _ _ | exact Kd.Q_nil _ _ _ _ _ | exact Kd.S_nil _ _ _ _ _⟩, ⟨by repeat (first | (with_reducible first | exact HB.out | apply bAl | apply pbD | apply bD1) | exact HB.out)⟩⟩
 case round =>
  clear H'
  try clear c2
  try clear p2
  obtain ⟨x8_1, x10_1, rfl, HA, HK1, HO_8, HB⟩ := hrel
  cases gk with
  | zero => exact absurd HA.out (by simp [w9_chosen.l0])
  | succ k1 =>
   have H := HA.out
   clear HA
   simp only [w9_chosen.l0] at H
   by_cases c4 : x10_1 < (l0.length : Int)
   ·
    rw [if_pos c4] at H
    have c4b0 : decide (x10_1 < (l0.length : Int)) = true := decide_eq_true c4
    clear c4
    by_cases c5 : 0 ≤ x10_1
    ·
     rw [if_pos c5] at H
     have c5b0 : decide (0 ≤ x10_1) = true := decide_eq_true c5
     clear c5
     replace H := oB H
     obtain ⟨t392, A60, H⟩ := H
     try dsimp only at H
     have A6 := aK A60
     clear A60
     by_cases c7 : t392 = true
     ·
      subst c7
      have H1 : (if x8_1.length < 2513169434916 then (w9_chosen.l0 k1 l0 a1 l2 (x8_1 ++ [(⟨(rd_T23 l0 x10_1).f0, (rd_T23 l0 x10_1).f1, (rd_T23 l0 x10_1).f2, (rd_T23 l0 x10_1).f3, (rd_T23 l0 x10_1).f4⟩ : S23)]) (wrap64 (x10_1 + 1))) else (none)) = some (r1, r2) := by rw [if_pos rfl] at H; exact H
      clear H
      have H := H1
      clear H1
      by_cases c8 : x8_1.length < 2513169434916
      ·
       rw [if_pos c8] at H
       have LMc8 := aK c8
       clear c8
       obtain ⟨y394, hy394⟩ : ∃ y_ : List (S23), y_ = (x8_1 ++ [(⟨(rd_T23 l0 x10_1).f0, (rd_T23 l0 x10_1).f1, (rd_T23 l0 x10_1).f2, (rd_T23 l0 x10_1).f3, (rd_T23 l0 x10_1).f4⟩ : S23)]) := ⟨_, rfl⟩
       replace H : (w9_chosen.l0 k1 l0 a1 l2 y394 (wrap64 (x10_1 + 1))) = some (r1, r2) := by first | (rw [hy394]; with_reducible exact H) | (have H2_ := (Option.bind_some _ _).symm.trans H; rw [hy394]; with_reducible exact H2_) | (have H2_ := (Option.bind_some _ _).symm.trans H; with_reducible exact H2_) | with_reducible exact H | (rw [hy394]; exact H) | exact H
       have Ny394 := aK hy394
       clear hy394
       have H' := aK H
       clear H
       have p391 : 0 ≤ (x10_1 : Int) := odT (by first | (with_reducible assumption) | assumption)
       have q391 : x10_1 < (l0.length : Int) := odT (by first | (with_reducible assumption) | assumption)
       obtain ⟨ad391, e391, hx391_0, hx391_1, hx391_2, hx391_3, hx391_4⟩ := at_T23 HR0.out x10_1 p391 q391
       cases e391
       replace hx391_0 := (HB.out.cell (World.block_lt_of_cell? w _ hx391_0)).trans hx391_0
       replace hx391_1 := (HB.out.cell (World.block_lt_of_cell? w _ hx391_1)).trans hx391_1
       replace hx391_2 := (HB.out.cell (World.block_lt_of_cell? w _ hx391_2)).trans hx391_2
       replace hx391_3 := (HB.out.cell (World.block_lt_of_cell? w _ hx391_3)).trans hx391_3
       replace hx391_4 := (HB.out.cell (World.block_lt_of_cell? w _ hx391_4)).trans hx391_4
       replace p391 := eq_true p391
       replace q391 := eq_true q391
       go_wp2_with (first | ((with_reducible refine gate_callee (f := 13) rfl ?_); refine goesL_ (some 25) rfl rfl Try.func13 (by kernel_rfl) rfl #[.agg #[.int .i64 ((rd_T23 l0 x10_1).f0), .string ((rd_T23 l0 x10_1).f1), .string ((rd_T23 l0 x10_1).f2), .int .i64 ((rd_T23 l0 x10_1).f3), .int .i64 ((rd_T23 l0 x10_1).f4)], .int .i64 a1] rfl (by (try simp only [qM0, qM1, qM2]); first | done | rfl | (simp only [qD0, qD1]; rfl)) ?_; (with_reducible refine (check_In.calls k1 ((rd_T23 l0 x10_1).f0) ((rd_T23 l0 x10_1).f1) ((rd_T23 l0 x10_1).f2) ((rd_T23 l0 x10_1).f3) ((rd_T23 l0 x10_1).f4) a1 true _ A6.out).mono ?_); rintro e w9 ⟨rfl, hb⟩; refine ⟨_, rfl, ?_⟩; have n0_ := aK (Kd.R_below (by (with_reducible repeat (first | apply Kd.R_alloc | apply Kd.R_drewN | apply Kd.R_drew)); exact HO_8.out) hb); have n1_ := aK (bSp (by repeat (first | (with_reducible first | exact HB.out | apply bAl | apply pbD | apply bD1) | exact HB.out)) hb); clear HO_8; clear HB; have HO_8 := n0_; have HB := n1_; clear n0_ n1_; (try clear hb); (try clear hb2); (try clear hk); (try clear hi); have p393 : 0 ≤ (x10_1 : Int) := odT (by first | (with_reducible assumption) | assumption); have q393 : x10_1 < (l0.length : Int) := odT (by first | (with_reducible assumption) | assumption); obtain ⟨ad393, e393, hx393_0, hx393_1, hx393_2, hx393_3, hx393_4⟩ := at_T23 HR0.out x10_1 p393 q393; obtain rfl : ad391 = ad393 := (by injection e393); replace hx393_0 := (HB.out.cell (World.block_lt_of_cell? w _ hx393_0)).trans hx393_0; replace hx393_1 := (HB.out.cell (World.block_lt_of_cell? w _ hx393_1)).trans hx393_1; replace hx393_2 := (HB.out.cell (World.block_lt_of_cell? w _ hx393_2)).trans hx393_2; replace hx393_3 := (HB.out.cell (World.block_lt_of_cell? w _ hx393_3)).trans hx393_3; replace hx393_4 := (HB.out.cell (World.block_lt_of_cell? w _ hx393_4)).trans hx393_4; replace p393 := eq_true p393; replace q393 := eq_true q393) | ((with_reducible refine gate_builtin (b := .append) (xs := #[.tmp 26, .tmp 31]) rfl ?_); (try (refine gate_guard (by rfl) ?_; dsimp only)); at_builtin; refine Kd.R_append k23 (w0 := w) w.heap.size rfl (.tmp 26) (.tmp 31) 25 23 (.agg #[(.int .i64 0), (.string ⟨#[]⟩), (.string ⟨#[]⟩), (.int .i64 0), (.int .i64 0)]) 56 rfl Try.underlying25 info23 rfl (by decide) (by omega) u8 x8_1 (⟨(rd_T23 l0 x10_1).f0, (rd_T23 l0 x10_1).f1, (rd_T23 l0 x10_1).f2, (rd_T23 l0 x10_1).f3, (rd_T23 l0 x10_1).f4⟩ : S23) [.int .i64 ((rd_T23 l0 x10_1).f0), .string ((rd_T23 l0 x10_1).f1), .string ((rd_T23 l0 x10_1).f2), .int .i64 ((rd_T23 l0 x10_1).f3), .int .i64 ((rd_T23 l0 x10_1).f4)] (fun _ => True) (fun _ => False) rfl rfl ?aP (fun _ hk => hk.elim) ?aF ?aO ?aB ?aS ?aL ?_; (case aP => exact k23_mkM _ _ _ (⟨(rd_T23 l0 x10_1).f0, (rd_T23 l0 x10_1).f1, (rd_T23 l0 x10_1).f2, (rd_T23 l0 x10_1).f3, (rd_T23 l0 x10_1).f4⟩ : S23)); (case aB => exact (by repeat (first | (with_reducible first | exact HB.out | apply bAl | apply pbD | apply bD1) | exact HB.out))); (case aF => exact (fun _ _ => trivial)); (case aO => exact (by (with_reducible repeat (first | apply Kd.R_alloc | apply Kd.R_drewN | apply Kd.R_drew)); exact HO_8.out)); (case aS => exact (bSz (by repeat (first | (with_reducible first | exact HB.out | apply bAl | apply pbD | apply bD1) | exact HB.out)))); (case aL => have := LMc8.out; omega); intro v395 w10 ho hb hg hat; rw [← Ny394.out] at ho; have n0_ := aK (hb); have n1_ := aK (ho); clear HB; clear HO_8; have HB := n0_; have HO396 := n1_; clear n0_ n1_; clear ho hb hg hat))
       go_roundg k1
       case measure => have := HK1.out; omega
       case rel => exact ⟨(y394), (wrap64 (x10_1 + 1)), (by first | rfl | (simp; done) | (simp [*]; done)), H', ⟨by have := HK1.out; omega⟩, ⟨by (with_reducible repeat (first | apply Kd.R_alloc | apply Kd.R_drewN | apply Kd.R_drew)); exact HO396.out⟩, ⟨by repeat (first | (with_reducible first | exact HB.out | apply bAl | apply pbD | apply bD1) | exact HB.out)⟩⟩
      ·
       rw [if_neg c8] at H
       exact absurd H (by simp)
     ·
      replace c7 := Bool.eq_false_iff.mpr c7
      subst c7
      have H1 : (w9_chosen.l0 k1 l0 a1 l2 x8_1 (wrap64 (x10_1 + 1))) = some (r1, r2) := by rw [if_neg (show ¬ (false = true) by decide)] at H; exact H
      clear H
      have H := H1
      clear H1
      have H' := aK H
      clear H
      have p391 : 0 ≤ (x10_1 : Int) := odT (by first | (with_reducible assumption) | assumption)
      have q391 : x10_1 < (l0.length : Int) := odT (by first | (with_reducible assumption) | assumption)
      obtain ⟨ad391, e391, hx391_0, hx391_1, hx391_2, hx391_3, hx391_4⟩ := at_T23 HR0.out x10_1 p391 q391
      cases e391
      replace hx391_0 := (HB.out.cell (World.block_lt_of_cell? w _ hx391_0)).trans hx391_0
      replace hx391_1 := (HB.out.cell (World.block_lt_of_cell? w _ hx391_1)).trans hx391_1
      replace hx391_2 := (HB.out.cell (World.block_lt_of_cell? w _ hx391_2)).trans hx391_2
      replace hx391_3 := (HB.out.cell (World.block_lt_of_cell? w _ hx391_3)).trans hx391_3
      replace hx391_4 := (HB.out.cell (World.block_lt_of_cell? w _ hx391_4)).trans hx391_4
      replace p391 := eq_true p391
      replace q391 := eq_true q391
      go_wp2_with (first | ((with_reducible refine gate_callee (f := 13) rfl ?_); refine goesL_ (some 25) rfl rfl Try.func13 (by kernel_rfl) rfl #[.agg #[.int .i64 ((rd_T23 l0 x10_1).f0), .string ((rd_T23 l0 x10_1).f1), .string ((rd_T23 l0 x10_1).f2), .int .i64 ((rd_T23 l0 x10_1).f3), .int .i64 ((rd_T23 l0 x10_1).f4)], .int .i64 a1] rfl (by (try simp only [qM0, qM1, qM2]); first | done | rfl | (simp only [qD0, qD1]; rfl)) ?_; (with_reducible refine (check_In.calls k1 ((rd_T23 l0 x10_1).f0) ((rd_T23 l0 x10_1).f1) ((rd_T23 l0 x10_1).f2) ((rd_T23 l0 x10_1).f3) ((rd_T23 l0 x10_1).f4) a1 false _ A6.out).mono ?_); rintro e w11 ⟨rfl, hb⟩; refine ⟨_, rfl, ?_⟩; have n0_ := aK (Kd.R_below (by (with_reducible repeat (first | apply Kd.R_alloc | apply Kd.R_drewN | apply Kd.R_drew)); exact HO_8.out) hb); have n1_ := aK (bSp (by repeat (first | (with_reducible first | exact HB.out | apply bAl | apply pbD | apply bD1) | exact HB.out)) hb); clear HO_8; clear HB; have HO_8 := n0_; have HB := n1_; clear n0_ n1_; (try clear hb); (try clear hb2); (try clear hk); (try clear hi)))
      go_roundg k1
      case measure => have := HK1.out; omega
      case rel => exact ⟨(x8_1), (wrap64 (x10_1 + 1)), (by first | rfl | (simp; done) | (simp [*]; done)), H', ⟨by have := HK1.out; omega⟩, ⟨by (with_reducible repeat (first | apply Kd.R_alloc | apply Kd.R_drewN | apply Kd.R_drew)); exact HO_8.out⟩, ⟨by repeat (first | (with_reducible first | exact HB.out | apply bAl | apply pbD | apply bD1) | exact HB.out)⟩⟩
    ·
     rw [if_neg c5] at H
     exact absurd H (by simp)
   ·
    rw [if_neg c4] at H
    have c4b0 : decide (x10_1 < (l0.length : Int)) = false := decide_eq_false c4
    clear c4
    have H' := aK H
    clear H
    go_wp2
    go_loopg [9, 11, 12] k1 (fun kq v9 v11 v12 w' => ∃ (x9_2 : List (S23)) (x11_2 : ByteArray) (x12_2 : Int), v11 = .string x11_2 ∧ v12 = .int .i64 x12_2 ∧ Aside0 (w9_chosen.l1 kq l2 x8_1 x9_2 x11_2 x12_2 = some (r1, r2)) ∧ Aside0 (kq ≤ k1) ∧ Aside0 (Kd.R k23 23 w' w.heap.size (fun k_ => some k_ ≠ (v9 : Value).ownBlock) u8 x8_1) ∧ Aside0 (Kd.R k23 23 w' w.heap.size (fun k_ => some k_ ≠ (u8 : Value).ownBlock) v9 x9_2) ∧ Aside0 (Below w.heap.size w w'))
    case atStart => exact ⟨(([] : List (S23))), ((⟨#[]⟩ : ByteArray)), (0), (by first | rfl | (simp; done) | (simp [*]; done)), (by first | rfl | (simp; done) | (simp [*]; done)), H', ⟨Nat.le_refl _⟩, ⟨by (with_reducible repeat (first | apply Kd.R_alloc | apply Kd.R_drewN | apply Kd.R_drew)); exact Kd.R_mono HO_8.out (fun _ hk => (by simp [Value.ownBlock]))⟩, ⟨by first | exact Kd.R_nil _ _ _ _ _ | exact Kd.N_nil _ _ _ _ _ | exact Kd.V_nil _ _ _ _ _ | exact Kd.Q_nil _ _ _ _ _ | exact Kd.S_nil _ _ _ _ _⟩, ⟨by repeat (first | (with_reducible first | exact HB.out | apply bAl | apply pbD | apply bD1) | exact HB.out)⟩⟩
    case round =>
     clear H'
     try clear c1
     try clear c2
     try clear p2
     try clear p3
     try clear q3
     try clear hx3
     try clear c4
     try clear c4b0
     try clear c5
     try clear c5b0
     try clear p6
     try clear c7
     try clear c8
     try clear hx391_0
     try clear hx391_1
     try clear hx391_2
     try clear hx391_3
     try clear hx391_4
     try clear hx393_0
     try clear hx393_1
     try clear hx393_2
     try clear hx393_3
     try clear hx393_4
     try clear p2
     try clear p391
     try clear p393
     try clear q391
     try clear q393
     obtain ⟨x9_2, x11_2, x12_2, rfl, rfl, HA, HK2, HO_8, HO_9, HB⟩ := hrel
     cases gk with
     | zero => exact absurd HA.out (by simp [w9_chosen.l1])
     | succ k2 =>
      have H := HA.out
      clear HA
      simp only [w9_chosen.l1] at H
      by_cases c12 : x12_2 < (l2.length : Int)
      ·
       rw [if_pos c12] at H
       have c12b0 : decide (x12_2 < (l2.length : Int)) = true := decide_eq_true c12
       clear c12
       by_cases c13 : (x8_1.length : Int) > 0
       ·
        rw [if_pos c13] at H
        have c13b0 : decide (0 < (x8_1.length : Int)) = true := decide_eq_true c13
        have c13b1 : decide (0 < x8_1.length) = true := decide_eq_true (by omega)
        clear c13
        by_cases c14 : 0 ≤ x12_2
        ·
         rw [if_pos c14] at H
         have c14b0 : decide (0 ≤ x12_2) = true := decide_eq_true c14
         clear c14
         by_cases c15 : (x8_1.length : Int) = 0
         ·
          rw [if_pos c15] at H
          exact absurd H (by simp)
         ·
          rw [if_neg c15] at H
          have c15b0 : ((x8_1.length : Int) == 0) = false := beq_eq_false_iff_ne.mpr c15
          have c15b1 : ((x8_1.length : Int) != 0) = true := bne_iff_ne.mpr c15
          have c15b2 : ¬ (x8_1 = []) := fun h_ => c15 (by rw [h_]; rfl)
          obtain ⟨ji16, hji16⟩ : ∃ j_ : Int, (Int.tmod (wrap64 (rd l2 x12_2)) (x8_1.length : Int)) = j_ := ⟨_, rfl⟩
          replace H : (if 0 ≤ (ji16) then (if (ji16) < (x8_1.length : Int) then (if x9_2.length < 2513169434916 then (if x11_2.size + ((rd_T23 x8_1 (ji16)).f2).size ≤ 9223372036854775807 then (w9_chosen.l1 k2 l2 x8_1 (x9_2 ++ [(⟨(rd_T23 x8_1 (ji16)).f0, (rd_T23 x8_1 (ji16)).f1, (rd_T23 x8_1 (ji16)).f2, (rd_T23 x8_1 (ji16)).f3, (rd_T23 x8_1 (ji16)).f4⟩ : S23)]) (x11_2 ++ ((rd_T23 x8_1 (ji16)).f2)) (wrap64 (x12_2 + 1))) else (none)) else (none)) else (none)) else (none)) = some (r1, r2) := by first | (rw [hji16] at H; exact H) | (simp only [hji16] at H ⊢; exact H)
          by_cases c17 : 0 ≤ (ji16)
          ·
           rw [if_pos c17] at H
           have c17b0 : decide (0 ≤ (ji16)) = true := decide_eq_true c17
           clear c17
           by_cases c18 : (ji16) < (x8_1.length : Int)
           ·
            rw [if_pos c18] at H
            have c18b0 : decide ((ji16) < (x8_1.length : Int)) = true := decide_eq_true c18
            clear c18
            by_cases c19 : x9_2.length < 2513169434916
            ·
             rw [if_pos c19] at H
             have LMc19 := aK c19
             clear c19
             obtain ⟨y400, hy400⟩ : ∃ y_ : List (S23), y_ = (x9_2 ++ [(⟨(rd_T23 x8_1 (ji16)).f0, (rd_T23 x8_1 (ji16)).f1, (rd_T23 x8_1 (ji16)).f2, (rd_T23 x8_1 (ji16)).f3, (rd_T23 x8_1 (ji16)).f4⟩ : S23)]) := ⟨_, rfl⟩
             replace H : (if x11_2.size + ((rd_T23 x8_1 (ji16)).f2).size ≤ 9223372036854775807 then (w9_chosen.l1 k2 l2 x8_1 y400 (x11_2 ++ ((rd_T23 x8_1 (ji16)).f2)) (wrap64 (x12_2 + 1))) else (none)) = some (r1, r2) := by first | (rw [hy400]; with_reducible exact H) | (have H2_ := (Option.bind_some _ _).symm.trans H; rw [hy400]; with_reducible exact H2_) | (have H2_ := (Option.bind_some _ _).symm.trans H; with_reducible exact H2_) | with_reducible exact H | (rw [hy400]; exact H) | exact H
             have Ny400 := aK hy400
             clear hy400
             by_cases c20 : x11_2.size + ((rd_T23 x8_1 (ji16)).f2).size ≤ 9223372036854775807
             ·
              rw [if_pos c20] at H
              have c20b0 := eq_true c20
              have c20b1 : decide (x11_2.size + ((rd_T23 x8_1 (ji16)).f2).size ≤ 9223372036854775807) = true := decide_eq_true c20
              try have c20b2 : (9223372036854775807 < x11_2.size + ((rd_T23 x8_1 (ji16)).f2).size) = False := eq_false (Nat.not_lt.2 c20)
              have H' := aK H
              clear H
              obtain ⟨Ao21, co21, eo21⟩ := Kd.R_slice HO_8.out
              subst eo21
              have p397 : 0 ≤ (x12_2 : Int) := odT (by first | (with_reducible assumption) | assumption)
              have q397 : x12_2 < (l2.length : Int) := odT (by first | (with_reducible assumption) | assumption)
              obtain ⟨ad397, e397, hx397_0⟩ := Kd.at_int HR2.out x12_2 p397 q397
              cases e397
              replace hx397_0 := (HB.out.cell (World.block_lt_of_cell? w _ hx397_0)).trans hx397_0
              replace p397 := eq_true p397
              replace q397 := eq_true q397
              have p398 : 0 ≤ ((ji16) : Int) := odT (by first | (with_reducible assumption) | assumption)
              have q398 : (ji16) < (x8_1.length : Int) := odT (by first | (with_reducible assumption) | assumption)
              obtain ⟨ad398, e398, hx398_0, hx398_1, hx398_2, hx398_3, hx398_4⟩ := at_T23 (Kd.R_reads' HO_8.out).2.2 (ji16) p398 q398
              cases e398
              replace p398 := eq_true p398
              replace q398 := eq_true q398
              go_wp2_with (first | ((with_reducible refine gate_dst (N := 13) rfl ?_); (try (refine gate_guard (by rfl) ?_; dsimp only)); refine box_event ?hg (N := 13) ?hd (cs := #[.int .i64 0, .string (⟨#[]⟩ : ByteArray), .string (⟨#[]⟩ : ByteArray), .int .i64 0, .int .i64 0]) (t := 23) ?hr ?_; (case hd => rfl); (case hg => rfl); (case hr => first | (go_simp; done) | (go_simp; rfl)); intro gb399 hg w22 hbox hb; have n0_ := aK (Kd.R_below (Kd.R_elderB (by (with_reducible repeat (first | apply Kd.R_alloc | apply Kd.R_drewN | apply Kd.R_drew)); exact HO_8.out) gb399 (Nat.le_of_eq hg.symm)) hb); have n1_ := aK (Kd.R_below (Kd.R_elderB (by (with_reducible repeat (first | apply Kd.R_alloc | apply Kd.R_drewN | apply Kd.R_drew)); exact HO_9.out) gb399 (Nat.le_of_eq hg.symm)) hb); have n2_ := aK (bSp (by repeat (first | (with_reducible first | exact HB.out | apply bAl | apply pbD | apply bD1) | exact HB.out)) hb); have n3_ := aK (hbox); have n4_ := aK ((by rw [hg]; exact (bSz (by repeat (first | (with_reducible first | exact HB.out | apply bAl | apply pbD | apply bD1) | exact HB.out))) : w.heap.size ≤ gb399)); have n5_ := aK ((by rw [hg]; exact (bSz (by repeat (first | (with_reducible first | exact HB.out | apply bAl | apply pbD | apply bD1) | exact HB.out))) : w.heap.size ≤ gb399)); clear HO_8; clear HO_9; clear HB; have HO_8 := n0_; have HO_9 := n1_; have HB := n2_; have BK399 := n3_; have GW399 := n4_; have GE399 := n5_; clear n0_ n1_ n2_ n3_ n4_ n5_; clear hb hbox hg; have hcz23_0 : w22.cell? ⟨gb399, 0, none⟩ = some (.int .i64 0) := (kCe BK399.out 0).trans rfl; have hcz23_1 : w22.cell? ⟨gb399, 1, none⟩ = some (.string (⟨#[]⟩ : ByteArray)) := (kCe BK399.out 1).trans rfl; have hcz23_2 : w22.cell? ⟨gb399, 2, none⟩ = some (.string (⟨#[]⟩ : ByteArray)) := (kCe BK399.out 2).trans rfl; have hcz23_3 : w22.cell? ⟨gb399, 3, none⟩ = some (.int .i64 0) := (kCe BK399.out 3).trans rfl; have hcz23_4 : w22.cell? ⟨gb399, 4, none⟩ = some (.int .i64 0) := (kCe BK399.out 4).trans rfl; have hfz23_0 := bFz BK399.out 0; have hfz23_1 := bFz BK399.out 1; have hfz23_2 := bFz BK399.out 2; have hfz23_3 := bFz BK399.out 3; have hfz23_4 := bFz BK399.out 4) | ((with_reducible refine gate_builtin (b := .append) (xs := #[.tmp 55, .tmp 57]) rfl ?_); (try (refine gate_guard (by rfl) ?_; dsimp only)); at_builtin; refine Kd.R_append k23 (w0 := w) w.heap.size rfl (.tmp 55) (.tmp 57) 25 23 (.agg #[(.int .i64 0), (.string ⟨#[]⟩), (.string ⟨#[]⟩), (.int .i64 0), (.int .i64 0)]) 56 rfl Try.underlying25 info23 rfl (by decide) (by omega) u9 x9_2 (⟨(rd_T23 x8_1 (ji16)).f0, (rd_T23 x8_1 (ji16)).f1, (rd_T23 x8_1 (ji16)).f2, (rd_T23 x8_1 (ji16)).f3, (rd_T23 x8_1 (ji16)).f4⟩ : S23) [.int .i64 ((rd_T23 x8_1 (ji16)).f0), .string ((rd_T23 x8_1 (ji16)).f1), .string ((rd_T23 x8_1 (ji16)).f2), .int .i64 ((rd_T23 x8_1 (ji16)).f3), .int .i64 ((rd_T23 x8_1 (ji16)).f4)] (fun k_ => some k_ ≠ (.slice (some ad398) x8_1.length co21 : Value).ownBlock ∧ k_ ≠ gb399) (fun _ => False) rfl (by first | (go_simp; done) | (go_simp; rfl)) ?aP (fun _ hk => hk.elim) ?aF ?aO ?aB ?aS ?aL ?_; (case aP => exact k23_mkM _ _ _ (⟨(rd_T23 x8_1 (ji16)).f0, (rd_T23 x8_1 (ji16)).f1, (rd_T23 x8_1 (ji16)).f2, (rd_T23 x8_1 (ji16)).f3, (rd_T23 x8_1 (ji16)).f4⟩ : S23)); (case aB => exact (by repeat (first | (with_reducible first | exact HB.out | apply bAl | apply pbD | apply bD1 | refine bSt ?_ GE399.out) | exact HB.out))); (case aF => exact (fun k_ hk => ⟨Kd.fresh' (Kd.R_lt (by (with_reducible repeat (first | apply Kd.R_alloc | apply Kd.R_drewN | apply Kd.R_drew)); exact (Kd.R_mono (Kd.R_far (p := ⟨gb399, 4, none⟩) (Kd.R_far (p := ⟨gb399, 3, none⟩) (Kd.R_far (p := ⟨gb399, 2, none⟩) (Kd.R_far (p := ⟨gb399, 1, none⟩) (Kd.R_far (p := ⟨gb399, 0, none⟩) (Kd.R_mono HO_8.out (fun k_ hk => (⟨hk, hk.2⟩ : _ ∧ k_ ≠ gb399))) (fun _ hk => hk.2) (.int .i64 ((rd_T23 x8_1 (ji16)).f0))) (fun _ hk => hk.2) (.string ((rd_T23 x8_1 (ji16)).f1))) (fun _ hk => hk.2) (.string ((rd_T23 x8_1 (ji16)).f2))) (fun _ hk => hk.2) (.int .i64 ((rd_T23 x8_1 (ji16)).f3))) (fun _ hk => hk.2) (.int .i64 ((rd_T23 x8_1 (ji16)).f4))) (fun _ h_ => h_.1)))) k_ hk, Kd.freshB (g := gb399) (o := .cells #[.int .i64 ((rd_T23 x8_1 (ji16)).f0), .string ((rd_T23 x8_1 (ji16)).f1), .string ((rd_T23 x8_1 (ji16)).f2), .int .i64 ((rd_T23 x8_1 (ji16)).f3), .int .i64 ((rd_T23 x8_1 (ji16)).f4)] 23 (0, 0)) (by (with_reducible repeat (first | refine kDN ?_ _ | refine kDr ?_ | refine kAl ?_ _)); refine blk_put (cs := #[.int .i64 ((rd_T23 x8_1 (ji16)).f0), .string ((rd_T23 x8_1 (ji16)).f1), .string ((rd_T23 x8_1 (ji16)).f2), .int .i64 ((rd_T23 x8_1 (ji16)).f3), .int .i64 0]) ?_ 4 _ rfl; (with_reducible repeat (first | refine kDN ?_ _ | refine kDr ?_ | refine kAl ?_ _)); refine blk_put (cs := #[.int .i64 ((rd_T23 x8_1 (ji16)).f0), .string ((rd_T23 x8_1 (ji16)).f1), .string ((rd_T23 x8_1 (ji16)).f2), .int .i64 0, .int .i64 0]) ?_ 3 _ rfl; (with_reducible repeat (first | refine kDN ?_ _ | refine kDr ?_ | refine kAl ?_ _)); refine blk_put (cs := #[.int .i64 ((rd_T23 x8_1 (ji16)).f0), .string ((rd_T23 x8_1 (ji16)).f1), .string (⟨#[]⟩ : ByteArray), .int .i64 0, .int .i64 0]) ?_ 2 _ rfl; (with_reducible repeat (first | refine kDN ?_ _ | refine kDr ?_ | refine kAl ?_ _)); refine blk_put (cs := #[.int .i64 ((rd_T23 x8_1 (ji16)).f0), .string (⟨#[]⟩ : ByteArray), .string (⟨#[]⟩ : ByteArray), .int .i64 0, .int .i64 0]) ?_ 1 _ rfl; (with_reducible repeat (first | refine kDN ?_ _ | refine kDr ?_ | refine kAl ?_ _)); refine blk_put (cs := #[.int .i64 0, .string (⟨#[]⟩ : ByteArray), .string (⟨#[]⟩ : ByteArray), .int .i64 0, .int .i64 0]) ?_ 0 _ rfl; (with_reducible repeat (first | refine kDN ?_ _ | refine kDr ?_ | refine kAl ?_ _)); exact BK399.out) k_ hk⟩)); (case aO => exact (by (with_reducible repeat (first | apply Kd.R_alloc | apply Kd.R_drewN | apply Kd.R_drew)); exact Kd.R_mono (Kd.R_far (p := ⟨gb399, 4, none⟩) (Kd.R_far (p := ⟨gb399, 3, none⟩) (Kd.R_far (p := ⟨gb399, 2, none⟩) (Kd.R_far (p := ⟨gb399, 1, none⟩) (Kd.R_far (p := ⟨gb399, 0, none⟩) (Kd.R_mono HO_9.out (fun k_ hk => (⟨hk, hk.2⟩ : _ ∧ k_ ≠ gb399))) (fun _ hk => hk.2) (.int .i64 ((rd_T23 x8_1 (ji16)).f0))) (fun _ hk => hk.2) (.string ((rd_T23 x8_1 (ji16)).f1))) (fun _ hk => hk.2) (.string ((rd_T23 x8_1 (ji16)).f2))) (fun _ hk => hk.2) (.int .i64 ((rd_T23 x8_1 (ji16)).f3))) (fun _ hk => hk.2) (.int .i64 ((rd_T23 x8_1 (ji16)).f4))) (fun _ hk => ⟨hk.1.1, hk.1.2⟩))); (case aS => exact (bSz (by repeat (first | (with_reducible first | exact HB.out | apply bAl | apply pbD | apply bD1 | refine bSt ?_ GE399.out) | exact HB.out)))); (case aL => have := LMc19.out; omega); intro v401 w24 ho hb hg hat; rw [← Ny400.out] at ho; have n0_ := aK (Kd.R_after (ok := (fun k_ => k_ ≠ gb399)) (by (with_reducible repeat (first | apply Kd.R_alloc | apply Kd.R_drewN | apply Kd.R_drew)); exact Kd.R_mono (Kd.R_far (p := ⟨gb399, 4, none⟩) (Kd.R_far (p := ⟨gb399, 3, none⟩) (Kd.R_far (p := ⟨gb399, 2, none⟩) (Kd.R_far (p := ⟨gb399, 1, none⟩) (Kd.R_far (p := ⟨gb399, 0, none⟩) (Kd.R_mono HO_8.out (fun k_ hk => (⟨hk, hk.2⟩ : _ ∧ k_ ≠ gb399))) (fun _ hk => hk.2) (.int .i64 ((rd_T23 x8_1 (ji16)).f0))) (fun _ hk => hk.2) (.string ((rd_T23 x8_1 (ji16)).f1))) (fun _ hk => hk.2) (.string ((rd_T23 x8_1 (ji16)).f2))) (fun _ hk => hk.2) (.int .i64 ((rd_T23 x8_1 (ji16)).f3))) (fun _ hk => hk.2) (.int .i64 ((rd_T23 x8_1 (ji16)).f4))) (fun _ hk => ⟨hk.1.2, hk.1.1⟩)) hg hat); have n1_ := aK (blk_grown (g := gb399) (o := .cells #[.int .i64 ((rd_T23 x8_1 (ji16)).f0), .string ((rd_T23 x8_1 (ji16)).f1), .string ((rd_T23 x8_1 (ji16)).f2), .int .i64 ((rd_T23 x8_1 (ji16)).f3), .int .i64 ((rd_T23 x8_1 (ji16)).f4)] 23 (0, 0)) (by (with_reducible repeat (first | refine kDN ?_ _ | refine kDr ?_ | refine kAl ?_ _)); refine blk_put (cs := #[.int .i64 ((rd_T23 x8_1 (ji16)).f0), .string ((rd_T23 x8_1 (ji16)).f1), .string ((rd_T23 x8_1 (ji16)).f2), .int .i64 ((rd_T23 x8_1 (ji16)).f3), .int .i64 0]) ?_ 4 _ rfl; (with_reducible repeat (first | refine kDN ?_ _ | refine kDr ?_ | refine kAl ?_ _)); refine blk_put (cs := #[.int .i64 ((rd_T23 x8_1 (ji16)).f0), .string ((rd_T23 x8_1 (ji16)).f1), .string ((rd_T23 x8_1 (ji16)).f2), .int .i64 0, .int .i64 0]) ?_ 3 _ rfl; (with_reducible repeat (first | refine kDN ?_ _ | refine kDr ?_ | refine kAl ?_ _)); refine blk_put (cs := #[.int .i64 ((rd_T23 x8_1 (ji16)).f0), .string ((rd_T23 x8_1 (ji16)).f1), .string (⟨#[]⟩ : ByteArray), .int .i64 0, .int .i64 0]) ?_ 2 _ rfl; (with_reducible repeat (first | refine kDN ?_ _ | refine kDr ?_ | refine kAl ?_ _)); refine blk_put (cs := #[.int .i64 ((rd_T23 x8_1 (ji16)).f0), .string (⟨#[]⟩ : ByteArray), .string (⟨#[]⟩ : ByteArray), .int .i64 0, .int .i64 0]) ?_ 1 _ rfl; (with_reducible repeat (first | refine kDN ?_ _ | refine kDr ?_ | refine kAl ?_ _)); refine blk_put (cs := #[.int .i64 0, .string (⟨#[]⟩ : ByteArray), .string (⟨#[]⟩ : ByteArray), .int .i64 0, .int .i64 0]) ?_ 0 _ rfl; (with_reducible repeat (first | refine kDN ?_ _ | refine kDr ?_ | refine kAl ?_ _)); exact BK399.out) hg (Kd.R_away HO_9.out (fun _ hk => hk.2))); have n2_ := aK (hb); have n3_ := aK (ho); clear HO_8; clear BK399; clear HB; clear HO_9; have HO_8 := n0_; have BK399 := n1_; have HB := n2_; have HO402 := n3_; clear n0_ n1_ n2_ n3_; clear ho hb hg hat; have hcz25_0 : w24.cell? ⟨gb399, 0, none⟩ = some (.int .i64 ((rd_T23 x8_1 (ji16)).f0)) := (kCe BK399.out 0).trans rfl; have hcz25_1 : w24.cell? ⟨gb399, 1, none⟩ = some (.string ((rd_T23 x8_1 (ji16)).f1)) := (kCe BK399.out 1).trans rfl; have hcz25_2 : w24.cell? ⟨gb399, 2, none⟩ = some (.string ((rd_T23 x8_1 (ji16)).f2)) := (kCe BK399.out 2).trans rfl; have hcz25_3 : w24.cell? ⟨gb399, 3, none⟩ = some (.int .i64 ((rd_T23 x8_1 (ji16)).f3)) := (kCe BK399.out 3).trans rfl; have hcz25_4 : w24.cell? ⟨gb399, 4, none⟩ = some (.int .i64 ((rd_T23 x8_1 (ji16)).f4)) := (kCe BK399.out 4).trans rfl; have hfz25_0 := bFz BK399.out 0; have hfz25_1 := bFz BK399.out 1; have hfz25_2 := bFz BK399.out 2; have hfz25_3 := bFz BK399.out 3; have hfz25_4 := bFz BK399.out 4))
              go_roundg k2
              case measure => have := HK1.out; have := HK2.out; omega
              case rel => exact ⟨(y400), (x11_2 ++ ((rd_T23 x8_1 (ji16)).f2)), (wrap64 (x12_2 + 1)), (by first | rfl | (simp; done) | (simp only [← hji16] <;> (first | rfl | simp)) | (simp [*]; done)), (by first | rfl | (simp; done) | (simp [*]; done)), H', ⟨by have := HK1.out; have := HK2.out; omega⟩, ⟨by (with_reducible repeat (first | apply Kd.R_alloc | apply Kd.R_drewN | apply Kd.R_drew)); exact Kd.R_mono HO_8.out (fun _ hk => hk.2)⟩, ⟨by (with_reducible repeat (first | apply Kd.R_alloc | apply Kd.R_drewN | apply Kd.R_drew)); exact Kd.R_mono HO402.out (fun _ hk => hk.1)⟩, ⟨by repeat (first | (with_reducible first | exact HB.out | apply bAl | apply pbD | apply bD1 | refine bSt ?_ GE399.out) | exact HB.out)⟩⟩
             ·
              rw [if_neg c20] at H
              exact absurd H (by simp)
            ·
             rw [if_neg c19] at H
             exact absurd H (by simp)
           ·
            rw [if_neg c18] at H
            exact absurd H (by simp)
          ·
           rw [if_neg c17] at H
           exact absurd H (by simp)
        ·
         rw [if_neg c14] at H
         exact absurd H (by simp)
       ·
        rw [if_neg c13] at H
        have c13b0 : decide (0 < (x8_1.length : Int)) = false := decide_eq_false c13
        have c13b1 : decide (0 < x8_1.length) = false := decide_eq_false (by omega)
        clear c13
        simp only [Option.some.injEq, Prod.mk.injEq] at H
        obtain ⟨rfl, rfl⟩ := H
        obtain ⟨Ao26, co26, eo26⟩ := Kd.R_slice HO_8.out
        subst eo26
        go_wp2
        go_ret2
        exact ⟨_, by first | rfl | (simp [eWn, eWs] <;> rfl) | (simp [*, eWn, eWs] <;> rfl), by (with_reducible repeat (first | apply Kd.R_alloc | apply Kd.R_drewN | apply Kd.R_drew)); exact Kd.R_mono HO_9.out (fun _ hk => trivial), by repeat (first | (with_reducible first | exact HB.out | apply bAl | apply pbD | apply bD1) | exact HB.out)⟩
      ·
       rw [if_neg c12] at H
       have c12b0 : decide (x12_2 < (l2.length : Int)) = false := decide_eq_false c12
       clear c12
       simp only [Option.some.injEq, Prod.mk.injEq] at H
       obtain ⟨rfl, rfl⟩ := H
       go_wp2
       go_ret2
       exact ⟨_, by first | rfl | (simp [eWn, eWs] <;> rfl) | (simp [*, eWn, eWs] <;> rfl), by (with_reducible repeat (first | apply Kd.R_alloc | apply Kd.R_drewN | apply Kd.R_drew)); exact Kd.R_mono HO_9.out (fun _ hk => trivial), by repeat (first | (with_reducible first | exact HB.out | apply bAl | apply pbD | apply bD1) | exact HB.out)⟩
end Go.Proofs.Ytgjkjoocnkdckaa.PChk
