-- Written by a program of this session (prt.py), out of the translation. Lean checks it.
import Derived.Test.YtgjkjoocnkdckaaGreatDoorZGRulOf
import Derived.Test.YtgjkjoocnkdckaaGreatDoorZPChk0
import Derived.Test.YtgjkjoocnkdckaaGreatDoorZPChk3
import Derived.Test.YtgjkjoocnkdckaaGreatDoorZPChk4
import Derived.Test.YtgjkjoocnkdckaaGreatDoorZPChk9
namespace Go.Proofs.YtgjkjoocnkdckaaGreatDoor.PChk
open Go.RowKit Go.Proofs.YtgjkjoocnkdckaaGreatDoor.G Go.Proofs.YtgjkjoocnkdckaaGreatDoorW.PrintWords Go.Proofs.YtgjkjoocnkdckaaGreatDoorW.PrintLast Go.Proofs.YtgjkjoocnkdckaaGreatDoorW.PrintMore
attribute [local go_sem] max2_int min2_int max_two min_two max_three min_three max_four min_four   -- for this text's walks alone
set_option linter.unusedVariables false
set_option linter.unusedSimpArgs false
def w8_RulesParses.j0 : Nat → ByteArray → Bool → Option (Bool)
 | 0, _, _ => none
 | k + 1, x0, x16 => if x16 = true then ((w8_awake.f k).bind fun t229 => (some t229)) else ((rules_Parse.f x0).bind fun bt230 => (if (x0.size : Int) > 65536 then (if (bt230.1.length : Int) = 0 then (if bt230.2.1 = 0 then (if bt230.2.2 = 4 then ((w8_awake.f k).bind fun t235 => (some t235)) else (some false)) else (some false)) else (some false)) else ((r8_Parse.f k x0).bind fun bt236 => ((r8_Same.f k bt230.1 bt236.1).bind fun t241 => (if t241 = true then (if bt230.2.1 = bt236.2.1 then (if bt230.2.2 = bt236.2.2 then ((w8_awake.f k).bind fun t242 => (some t242)) else (some false)) else (some false)) else (some false))))))
def w8_RulesParses.f (k : Nat) (a0 : ByteArray) : Option (Bool) := if (a0.size : Int) > 5000 then (w8_RulesParses.j0 k a0 (decide ((a0.size : Int) ≤ 65536))) else (w8_RulesParses.j0 k a0 false)
theorem w8_RulesParses.mono_l : ∀ k, (∀ y0 y1, LeO (w8_RulesParses.j0 k y0 y1) (w8_RulesParses.j0 (k + 1) y0 y1))
 | 0 => fun _ _ r h => by simp [w8_RulesParses.j0] at h
 | k + 1 => by
  have ih0 := w8_RulesParses.mono_l k
  ·
   intro y0 y1
   unfold w8_RulesParses.j0
   repeat' first
   | (with_reducible exact ih0 _ _)
   | (with_reducible exact w8_awake.mono _)
   | (with_reducible exact r8_Parse.mono _ _)
   | (with_reducible exact r8_Same.mono _ _ _)
   | (with_reducible exact LeO.refl _)
   | (with_reducible exact LeO.none _)
   | (with_reducible refine LeO.ite ?_ ?_)
   | (with_reducible refine LeO.bind ?_ (fun _ => ?_))
   | exact ih0 _ _
   | exact w8_awake.mono _
   | exact r8_Parse.mono _ _
   | exact r8_Same.mono _ _ _
   | exact LeO.none _
   | refine LeO.ite ?_ ?_
   | refine LeO.bind ?_ (fun _ => ?_)
theorem w8_RulesParses.mono : ∀ a0 k, LeO (w8_RulesParses.f k a0) (w8_RulesParses.f (k + 1) a0) := by
 intro a0 k
 have ih0 := w8_RulesParses.mono_l k
 unfold w8_RulesParses.f
 repeat' first
   | (with_reducible exact ih0 _ _)
   | (with_reducible exact w8_awake.mono _)
   | (with_reducible exact r8_Parse.mono _ _)
   | (with_reducible exact r8_Same.mono _ _ _)
   | (with_reducible exact LeO.refl _)
   | (with_reducible exact LeO.none _)
   | (with_reducible refine LeO.ite ?_ ?_)
   | (with_reducible refine LeO.bind ?_ (fun _ => ?_))
   | exact ih0 _ _
   | exact w8_awake.mono _
   | exact r8_Parse.mono _ _
   | exact r8_Same.mono _ _ _
   | exact LeO.none _
   | refine LeO.ite ?_ ?_
   | refine LeO.bind ?_ (fun _ => ?_)
set_option maxHeartbeats 8000000 in
set_option maxRecDepth 100000 in
theorem w8_RulesParses.calls (k : Nat) (a0 : ByteArray) (r : Bool) (w : World) (h : w8_RulesParses.f k a0 = some r) (hT0 : r = true) :
  Calls Tryz.prog 4 #[.string a0] w fun e w' => e = .returned (.bool r) ∧ Below w.heap.size w w' := by
 have HB := aK (Below.refl w.heap.size w)
 have H : (if (a0.size : Int) > 5000 then (w8_RulesParses.j0 k a0 (decide ((a0.size : Int) ≤ 65536))) else (w8_RulesParses.j0 k a0 false)) = some r := h
 clear h
 have hT := aK hT0
 clear hT0
 have HC2 := aK H
 clear H
 go_enter Tryz.func4, Tryz.ntmps4
 go_upto_region 1 with (fail)
 go_cut [16] (fun v16 wc => ∃ (kq : Nat) (x16_1 : Bool), v16 = .bool x16_1 ∧ Aside0 (w8_RulesParses.j0 kq a0 x16_1 = some r) ∧ Aside0 (kq ≤ k) ∧ Aside0 (Below w.heap.size w wc))
 case first =>
  have H := HC2.out
  clear HC2
  by_cases c3 : (a0.size : Int) > 5000
  ·
   rw [if_pos c3] at H
   have c3b0 : decide (5000 < (a0.size : Int)) = true := decide_eq_true c3
   have c3b1 : decide (5000 < a0.size) = true := decide_eq_true (by omega)
   clear c3
   (first | rw [c3b0] | (simp only [i64_w, i32_w]; rw [c3b0]) | skip)
   have H' := aK H
   clear H
   go_wp2
   go_meet
   case rel => exact ⟨_, (decide ((a0.size : Int) ≤ 65536)), (by first | rfl | (simp; done) | (simp [*]; done)), H', ⟨by first | omega | exact Nat.le_refl _⟩, ⟨by repeat (first | (with_reducible first | exact HB.out | apply bAl | apply pbD | apply bD1) | exact HB.out)⟩⟩
  ·
   rw [if_neg c3] at H
   have c3b0 : decide (5000 < (a0.size : Int)) = false := decide_eq_false c3
   have c3b1 : decide (5000 < a0.size) = false := decide_eq_false (by omega)
   clear c3
   (first | rw [c3b0] | (simp only [i64_w, i32_w]; rw [c3b0]) | skip)
   have H' := aK H
   clear H
   go_wp2
   go_meet
   case rel => exact ⟨_, (false), (by first | rfl | (simp; done) | (simp [*]; done)), H', ⟨by first | omega | exact Nat.le_refl _⟩, ⟨by repeat (first | (with_reducible first | exact HB.out | apply bAl | apply pbD | apply bD1) | exact HB.out)⟩⟩
 case rest =>
  clear HC2
  try clear p2
  try clear c3
  try clear c3b0
  try clear c3b1
  obtain ⟨kq, x16_1, rfl, HA, HJ1, HB⟩ := hcut
  cases kq with
  | zero => exact absurd HA.out (by simp [w8_RulesParses.j0])
  | succ kj1 =>
   have H := HA.out
   clear HA
   simp only [w8_RulesParses.j0] at H
   by_cases c4 : x16_1 = true
   ·
    subst c4
    have H1 : ((w8_awake.f kj1).bind fun t229 => (some t229)) = some r := by rw [if_pos rfl] at H; exact H
    clear H
    have H := H1
    clear H1
    replace H := oB H
    obtain ⟨t229, A50, H⟩ := H
    replace H : (some t229) = some r := H
    have A5 := aK A50
    clear A50
    obtain rfl := oI H
    go_wp2_with (first | ((with_reducible refine gate_callee (f := 13) rfl ?_); refine goesL_ (some 17) rfl rfl Tryz.func13 (by kernel_rfl) rfl #[] rfl (by (try simp only [qM0, qM1, qM2]); first | done | rfl | (simp only [qD0, qD1]; rfl)) ?_; (with_reducible refine (w8_awake.calls kj1  t229 _ A5.out).mono ?_); rintro e w6 ⟨rfl, hb⟩; refine ⟨_, rfl, ?_⟩; have n0_ := aK (bSp (by repeat (first | (with_reducible first | exact HB.out | apply bAl | apply pbD | apply bD1) | exact HB.out)) hb); clear HB; have HB := n0_; clear n0_; (try clear hb); (try clear hb2); (try clear hk); (try clear hi)))
    go_ret
    exact ⟨by first | rfl | (simp [eWn, eWs] <;> rfl) | (simp [*, eWn, eWs] <;> rfl), by repeat (first | (with_reducible first | exact HB.out | apply bAl | apply pbD | apply bD1) | exact HB.out)⟩
   ·
    replace c4 := Bool.eq_false_iff.mpr c4
    subst c4
    have H1 : ((rules_Parse.f a0).bind fun bt230 => (if (a0.size : Int) > 65536 then (if (bt230.1.length : Int) = 0 then (if bt230.2.1 = 0 then (if bt230.2.2 = 4 then ((w8_awake.f kj1).bind fun t235 => (some t235)) else (some false)) else (some false)) else (some false)) else ((r8_Parse.f kj1 a0).bind fun bt236 => ((r8_Same.f kj1 bt230.1 bt236.1).bind fun t241 => (if t241 = true then (if bt230.2.1 = bt236.2.1 then (if bt230.2.2 = bt236.2.2 then ((w8_awake.f kj1).bind fun t242 => (some t242)) else (some false)) else (some false)) else (some false)))))) = some r := by rw [if_neg (show ¬ (false = true) by decide)] at H; exact H
    clear H
    have H := H1
    clear H1
    replace H := oB H
    obtain ⟨⟨t230, t231, t232⟩, A70, H⟩ := H
    try dsimp only at H
    have A7 := aK A70
    clear A70
    by_cases c8 : (a0.size : Int) > 65536
    ·
     rw [if_pos c8] at H
     have c8b0 : decide (65536 < (a0.size : Int)) = true := decide_eq_true c8
     have c8b1 : decide (65536 < a0.size) = true := decide_eq_true (by omega)
     clear c8
     by_cases c9 : (t230.length : Int) = 0
     ·
      rw [if_pos c9] at H
      have c9b0 : ((t230.length : Int) == 0) = true := beq_iff_eq.mpr c9
      have c9b1 : ((t230.length : Int) != 0) = false := bne_eq_false_iff_eq.mpr c9
      clear c9
      by_cases c10 : t231 = 0
      ·
       rw [if_pos c10] at H
       have c10b0 : (t231 == 0) = true := beq_iff_eq.mpr c10
       have c10b1 : (t231 != 0) = false := bne_eq_false_iff_eq.mpr c10
       clear c10
       by_cases c11 : t232 = 4
       ·
        rw [if_pos c11] at H
        have c11b0 : (t232 == 4) = true := beq_iff_eq.mpr c11
        have c11b1 : (t232 != 4) = false := bne_eq_false_iff_eq.mpr c11
        clear c11
        replace H := oB H
        obtain ⟨t235, A120, H⟩ := H
        replace H : (some t235) = some r := H
        have A12 := aK A120
        clear A120
        obtain rfl := oI H
        go_wp2_with (first | ((with_reducible refine gate_callee (f := 14) rfl ?_); refine goesL_ (some 20) rfl rfl Tryz.func14 (by kernel_rfl) rfl #[.string a0] rfl (by (try simp only [qM0, qM1, qM2]); first | done | rfl | (simp only [qD0, qD1]; rfl)) ?_; (with_reducible refine (rules_Parse.calls a0 t230 t231 t232 _ A7.out).mono ?_); rintro e w13 ⟨v233, rfl, ho0, hb⟩; refine ⟨_, rfl, ?_⟩; have n0_ := aK (Kd.R_lower ho0 (bSz (by repeat (first | (with_reducible first | exact HB.out | apply bAl | apply pbD | apply bD1) | exact HB.out)))); have n1_ := aK (bSp (by repeat (first | (with_reducible first | exact HB.out | apply bAl | apply pbD | apply bD1) | exact HB.out)) hb); clear HB; have HO234 := n0_; have HB := n1_; clear n0_ n1_; (try clear hb); (try clear hb2); (try clear hk); (try clear hi); (try clear ho0); obtain ⟨Ao14, co14, eo14⟩ := Kd.R_slice HO234.out; subst eo14) | (go_at_call 13; (with_reducible refine (w8_awake.calls kj1  t235 _ A12.out).mono ?_); rintro e w15 ⟨rfl, hb⟩; have n0_ := aK (Kd.R_below (by (with_reducible repeat (first | apply Kd.R_alloc | apply Kd.R_drewN | apply Kd.R_drew)); exact HO234.out) hb); have n1_ := aK (bSp (by repeat (first | (with_reducible first | exact HB.out | apply bAl | apply pbD | apply bD1) | exact HB.out)) hb); clear HO234; clear HB; have HO234 := n0_; have HB := n1_; clear n0_ n1_; (try clear hb); (try clear hb2); (try clear hk); (try clear hi)))
        go_ret
        exact ⟨by first | rfl | (simp [eWn, eWs] <;> rfl) | (simp [*, eWn, eWs] <;> rfl), by repeat (first | (with_reducible first | exact HB.out | apply bAl | apply pbD | apply bD1) | exact HB.out)⟩
       ·
        rw [if_neg c11] at H
        have c11b0 : (t232 == 4) = false := beq_eq_false_iff_ne.mpr c11
        have c11b1 : (t232 != 4) = true := bne_iff_ne.mpr c11
        exact absurd ((oI H).trans hT.out) (by decide)
      ·
       rw [if_neg c10] at H
       have c10b0 : (t231 == 0) = false := beq_eq_false_iff_ne.mpr c10
       have c10b1 : (t231 != 0) = true := bne_iff_ne.mpr c10
       exact absurd ((oI H).trans hT.out) (by decide)
     ·
      rw [if_neg c9] at H
      have c9b0 : ((t230.length : Int) == 0) = false := beq_eq_false_iff_ne.mpr c9
      have c9b1 : ((t230.length : Int) != 0) = true := bne_iff_ne.mpr c9
      have c9b2 : ¬ (t230 = []) := fun h_ => c9 (by rw [h_]; rfl)
      exact absurd ((oI H).trans hT.out) (by decide)
    ·
     rw [if_neg c8] at H
     have c8b0 : decide (65536 < (a0.size : Int)) = false := decide_eq_false c8
     have c8b1 : decide (65536 < a0.size) = false := decide_eq_false (by omega)
     clear c8
     replace H := oB H
     obtain ⟨⟨t236, t237, t238⟩, A160, H⟩ := H
     try dsimp only at H
     have A16 := aK A160
     clear A160
     replace H := oB H
     obtain ⟨t241, A170, H⟩ := H
     try dsimp only at H
     have A17 := aK A170
     clear A170
     by_cases c18 : t241 = true
     ·
      subst c18
      have H1 : (if t231 = t237 then (if t232 = t238 then ((w8_awake.f kj1).bind fun t242 => (some t242)) else (some false)) else (some false)) = some r := by rw [if_pos rfl] at H; exact H
      clear H
      have H := H1
      clear H1
      by_cases c19 : t231 = t237
      ·
       rw [if_pos c19] at H
       have c19b0 : (t231 == t237) = true := beq_iff_eq.mpr c19
       have c19b1 : (t231 != t237) = false := bne_eq_false_iff_eq.mpr c19
       clear c19
       by_cases c20 : t232 = t238
       ·
        rw [if_pos c20] at H
        have c20b0 : (t232 == t238) = true := beq_iff_eq.mpr c20
        have c20b1 : (t232 != t238) = false := bne_eq_false_iff_eq.mpr c20
        clear c20
        replace H := oB H
        obtain ⟨t242, A210, H⟩ := H
        replace H : (some t242) = some r := H
        have A21 := aK A210
        clear A210
        obtain rfl := oI H
        go_wp2_with (first | ((with_reducible refine gate_callee (f := 14) rfl ?_); refine goesL_ (some 20) rfl rfl Tryz.func14 (by kernel_rfl) rfl #[.string a0] rfl (by (try simp only [qM0, qM1, qM2]); first | done | rfl | (simp only [qD0, qD1]; rfl)) ?_; (with_reducible refine (rules_Parse.calls a0 t230 t231 t232 _ A7.out).mono ?_); rintro e w22 ⟨v233, rfl, ho0, hb⟩; refine ⟨_, rfl, ?_⟩; have n0_ := aK (Kd.R_lower ho0 (bSz (by repeat (first | (with_reducible first | exact HB.out | apply bAl | apply pbD | apply bD1) | exact HB.out)))); have n1_ := aK (bSp (by repeat (first | (with_reducible first | exact HB.out | apply bAl | apply pbD | apply bD1) | exact HB.out)) hb); clear HB; have HO234 := n0_; have HB := n1_; clear n0_ n1_; (try clear hb); (try clear hb2); (try clear hk); (try clear hi); (try clear ho0)) | ((with_reducible refine gate_callee (f := 15) rfl ?_); refine goesL_ (some 43) rfl rfl Tryz.func15 (by kernel_rfl) rfl #[.string a0] rfl (by (try simp only [qM0, qM1, qM2]); first | done | rfl | (simp only [qD0, qD1]; rfl)) ?_; (with_reducible refine (r8_Parse.calls kj1 a0 t236 t237 t238 _ A16.out).mono ?_); rintro e w23 ⟨v239, rfl, ho0, hb⟩; refine ⟨_, rfl, ?_⟩; have n0_ := aK (Kd.R_elder' (by (with_reducible repeat (first | apply Kd.R_alloc | apply Kd.R_drewN | apply Kd.R_drew)); exact HO234.out) (Kd.R_base ho0) hb); have n1_ := aK (Kd.R_lower (Kd.R_new' ho0 (Kd.R_lt (by (with_reducible repeat (first | apply Kd.R_alloc | apply Kd.R_drewN | apply Kd.R_drew)); exact HO234.out))) (bSz (by repeat (first | (with_reducible first | exact HB.out | apply bAl | apply pbD | apply bD1) | exact HB.out)))); have n2_ := aK (bSp (by repeat (first | (with_reducible first | exact HB.out | apply bAl | apply pbD | apply bD1) | exact HB.out)) hb); clear HO234; clear HB; have HO234 := n0_; have HO240 := n1_; have HB := n2_; clear n0_ n1_ n2_; (try clear hb); (try clear hb2); (try clear hk); (try clear hi); (try clear ho0); obtain ⟨Ao24, co24, eo24⟩ := Kd.R_slice HO234.out; subst eo24; obtain ⟨Ao25, co25, eo25⟩ := Kd.R_slice HO240.out; subst eo25) | ((with_reducible refine gate_callee (f := 16) rfl ?_); refine goesL_ (some 49) rfl rfl Tryz.func16 (by kernel_rfl) rfl #[.slice Ao24 t230.length co24, .slice Ao25 t236.length co25] rfl (by (try simp only [qM0, qM1, qM2]); first | done | rfl | (simp only [qD0, qD1]; rfl)) ?_; (with_reducible refine (r8_Same.calls kj1 _ _ t230 _ _ t236 true _ ?side1 ?side2 ?side3 ?side4 A17.out).mono ?_); (case side1 => repeat (first | exact (Kd.R_reads' HO234.out).2.2 | (with_reducible refine Kd.C_alloc ?_ _) | (with_reducible refine Kd.C_drewN ?_ _) | (with_reducible refine Kd.C_drew ?_))); (case side2 => exact (Kd.R_reads' HO234.out).2.1); (case side3 => repeat (first | exact (Kd.R_reads' HO240.out).2.2 | (with_reducible refine Kd.C_alloc ?_ _) | (with_reducible refine Kd.C_drewN ?_ _) | (with_reducible refine Kd.C_drew ?_))); (case side4 => exact (Kd.R_reads' HO240.out).2.1); rintro e w' ⟨rfl, ⟨nd, rfl⟩⟩; refine ⟨_, rfl, ?_⟩) | (go_at_call 13; (with_reducible refine (w8_awake.calls kj1  t242 _ A21.out).mono ?_); rintro e w26 ⟨rfl, hb⟩; have n0_ := aK (Kd.R_below (by (with_reducible repeat (first | apply Kd.R_alloc | apply Kd.R_drewN | apply Kd.R_drew)); exact HO234.out) hb); have n1_ := aK (Kd.R_below (by (with_reducible repeat (first | apply Kd.R_alloc | apply Kd.R_drewN | apply Kd.R_drew)); exact HO240.out) hb); have n2_ := aK (bSp (by repeat (first | (with_reducible first | exact HB.out | apply bAl | apply pbD | apply bD1) | exact HB.out)) hb); clear HO234; clear HO240; clear HB; have HO234 := n0_; have HO240 := n1_; have HB := n2_; clear n0_ n1_ n2_; (try clear hb); (try clear hb2); (try clear hk); (try clear hi)))
        go_ret
        exact ⟨by first | rfl | (simp [eWn, eWs] <;> rfl) | (simp [*, eWn, eWs] <;> rfl), by repeat (first | (with_reducible first | exact HB.out | apply bAl | apply pbD | apply bD1) | exact HB.out)⟩
       ·
        rw [if_neg c20] at H
        have c20b0 : (t232 == t238) = false := beq_eq_false_iff_ne.mpr c20
        have c20b1 : (t232 != t238) = true := bne_iff_ne.mpr c20
        exact absurd ((oI H).trans hT.out) (by decide)
      ·
       rw [if_neg c19] at H
       have c19b0 : (t231 == t237) = false := beq_eq_false_iff_ne.mpr c19
       have c19b1 : (t231 != t237) = true := bne_iff_ne.mpr c19
       exact absurd ((oI H).trans hT.out) (by decide)
     ·
      replace c18 := Bool.eq_false_iff.mpr c18
      subst c18
      have H1 : (some false) = some r := by rw [if_neg (show ¬ (false = true) by decide)] at H; exact H
      clear H
      have H := H1
      clear H1
      exact absurd ((oI H).trans hT.out) (by decide)
def w8_RulesParses.Pure : Prop := ∀ (a0 : ByteArray), a0.size ≤ 140737488351232 → ∃ k, w8_RulesParses.f k a0 = some true
theorem w8_RulesParses.walk (P : w8_RulesParses.Pure) (a0 : ByteArray) (w : World) (w0 : a0.size ≤ 140737488351232) :
  Calls Tryz.prog 4 #[.string a0] w fun e w' => e = .returned (.bool true) ∧ Below w.heap.size w w' := by
 obtain ⟨k, h⟩ := P a0 w0
 refine (w8_RulesParses.calls k a0 true w h rfl).mono ?_
 rintro e w' ⟨rfl, hd⟩
 exact ⟨rfl, hd⟩
end Go.Proofs.YtgjkjoocnkdckaaGreatDoor.PChk
