import Derived.Test.YtbpbniemjjhecaaGreatZPCnk0
namespace Go.Proofs.YtbpbniemjjhecaaGreat.PChk
open Go.RowKit Go.Proofs.YtbpbniemjjhecaaGreat.G Go.Proofs.YtbpbniemjjhecaaGreat.PChk Go.Proofs.YtbpbniemjjhecaaGreatW.PrintWords Go.Proofs.YtbpbniemjjhecaaGreatW.PrintLast Go.Proofs.YtbpbniemjjhecaaGreatW.PrintMore
attribute [local go_sem] max2_int min2_int max_two min_two max_three min_three max_four min_four
set_option linter.unusedVariables false
set_option linter.unusedSimpArgs false
set_option maxHeartbeats 8000000
set_option maxRecDepth 100000
def chars_Is.f (a0 : Int) : Option (Bool) := (chars_Class.f a0).bind fun t101 => (if t101 = 0 then (some false) else (some (t101 != 6)))
theorem chars_Is.calls (a0 : Int) (r : Bool) (w : World) (h : chars_Is.f a0 = some r) :
  Calls Tryz.prog 26 #[.int .u8 a0] w fun e w' => e = .returned (.bool r) ∧ Below w.heap.size w w' := by
 have HB := aK (Below.refl w.heap.size w)
 have H : ((chars_Class.f a0).bind fun t101 => (if t101 = 0 then (some false) else (some (t101 != 6)))) = some r := h
 clear h
 obtain ⟨t101, A2, H⟩ := oC H
 try dsimp only at H
 by_cases c3 : t101 = 0
 rotate_left
 ·
  rw [if_neg c3] at H; obtain ⟨c3b0, c3b1⟩ := bN c3; obtain rfl := oI H
  go_enter Tryz.func26, Tryz.ntmps26
  go_wp2_with (first | ((with_reducible refine gate_callee (f := 62) rfl ?_); refine gO 5 Tryz.func62 #[.int .u8 a0] ?_; (with_reducible refine (chars_Class.calls a0 t101 _ A2.out).mono ?_); rintro e w5 ⟨rfl, hb⟩; refine ⟨_, rfl, ?_⟩; replace HB := aK (bSp bX hb); clear hb))
  go_ret
  exact ⟨eX, bX⟩
 rw [if_pos c3] at H
 obtain ⟨c3b0, c3b1⟩ := bY c3
 clear c3
 obtain rfl := oI H
 go_enter Tryz.func26, Tryz.ntmps26
 go_wp2_with (first | ((with_reducible refine gate_callee (f := 62) rfl ?_); refine gO 5 Tryz.func62 #[.int .u8 a0] ?_; (with_reducible refine (chars_Class.calls a0 t101 _ A2.out).mono ?_); rintro e w4 ⟨rfl, hb⟩; refine ⟨_, rfl, ?_⟩; replace HB := aK (bSp bX hb); clear hb))
 go_ret
 exact ⟨eX, bX⟩
def chunk_mark.j0 : Nat → Bool → Int → Int → Int → Option (ByteArray)
 | 0, _, _, _, _ => none
 | k + 1, x15, x103000, x103001, x103002 => if x15 = true then (some (⟨#[]⟩ : ByteArray)) else (if x103000 = 2 then (some (strOfNums (([x103001, 43] : List Int)))) else (if x103000 = 3 then (some (strOfNums (([x103001, 45] : List Int)))) else (some (⟨#[]⟩ : ByteArray))))
def chunk_mark.f (k : Nat) (a0_0 : Int) (a0_1 : Int) (a0_2 : Int) : Option (ByteArray) := if a0_1 = 101 then (chunk_mark.j0 k false a0_0 a0_1 a0_2) else (if a0_1 = 115 then (chunk_mark.j0 k false a0_0 a0_1 a0_2) else (chunk_mark.j0 k (a0_1 != 110) a0_0 a0_1 a0_2))
theorem chunk_mark.calls (k : Nat) (a0_0 : Int) (a0_1 : Int) (a0_2 : Int) (r : ByteArray) (w : World) (h : chunk_mark.f k a0_0 a0_1 a0_2 = some r) :
  Calls Tryz.prog 27 #[.agg #[.int .i64 a0_0, .int .u8 a0_1, .int .i64 a0_2]] w fun e w' => e = .returned (.string r) ∧ Below w.heap.size w w' := by
 have hu42 := Tryz.underlying42
 have HB := aK (Below.refl w.heap.size w)
 have H : (if a0_1 = 101 then (chunk_mark.j0 k false a0_0 a0_1 a0_2) else (if a0_1 = 115 then (chunk_mark.j0 k false a0_0 a0_1 a0_2) else (chunk_mark.j0 k (a0_1 != 110) a0_0 a0_1 a0_2))) = some r := h
 clear h
 have HC2 := aK H
 clear H
 go_enter Tryz.func27, Tryz.ntmps27
 go_upto_region 1 with (first | ((with_reducible refine gate_dst (N := 1) rfl ?_); refine box_event ?hg (N := 1) ?hd (cs := #[.int .i64 a0_0, .int .u8 a0_1, .int .i64 a0_2]) (t := 42) ?hr ?_; (case hd => rfl); (case hg => rfl); (case hr => first | (go_simp; done) | (go_simp; rfl)); intro gb102 hg w3 hbox hb; have n0_ := aK (bSp bX hb); have n1_ := aK (hbox); have n2_ := aK ((by rw [hg]; exact (bSz bX) : w.heap.size ≤ gb102)); have n3_ := aK ((by rw [hg]; exact (bSz bX) : w.heap.size ≤ gb102)); clear HB; have HB := n0_; have BK102 := n1_; have GW102 := n2_; have GE102 := n3_; clear n0_ n1_ n2_ n3_; clear hb hbox hg))
 (try simp only [Act.put, qSa, qS0, qS1])
 go_cut [15] (fun v15 wc => ∃ (kq : Nat) (x15_1 : Bool), v15 = .bool x15_1 ∧ Aside0 (chunk_mark.j0 kq x15_1 a0_0 a0_1 a0_2 = some r) ∧ Aside0 (kq ≤ k) ∧ Aside0 (wc.heap[gb102]? = some (.cells #[.int .i64 a0_0, .int .u8 a0_1, .int .i64 a0_2] 42 (0, 0))) ∧ Aside0 (Below w.heap.size w wc))
 case first =>
  have H := HC2.out; clear HC2
  by_cases c4 : a0_1 = 101
  rotate_left
  ·
   rw [if_neg c4] at H; obtain ⟨c4b0, c4b1⟩ := bN c4
   (first | rw [c4b0] | (simp only [i64_w, i32_w]; rw [c4b0]) | skip)
   by_cases c6 : a0_1 = 115
   rotate_left
   ·
    rw [if_neg c6] at H; obtain ⟨c6b0, c6b1⟩ := bN c6; have H' := aK H; clear H; obtain ⟨hcz8_0, hcz8_1, hcz8_2⟩ := kC3 BK102.out; obtain ⟨hfz8_0, hfz8_1, hfz8_2⟩ := bF3 BK102.out
    go_wp2
    go_meet
    case rel => exact ⟨_, ((a0_1 != 110)), sX, H', ⟨by first | omega | exact Nat.le_refl _⟩, ⟨kX BK102.out⟩, ⟨bX1 GE102.out⟩⟩
   rw [if_pos c6] at H; obtain ⟨c6b0, c6b1⟩ := bY c6; clear c6; have H' := aK H; clear H; obtain ⟨hcz7_0, hcz7_1, hcz7_2⟩ := kC3 BK102.out; obtain ⟨hfz7_0, hfz7_1, hfz7_2⟩ := bF3 BK102.out
   go_wp2
   go_meet
   case rel => exact ⟨_, (false), sX, H', ⟨by first | omega | exact Nat.le_refl _⟩, ⟨kX BK102.out⟩, ⟨bX1 GE102.out⟩⟩
  rw [if_pos c4] at H; obtain ⟨c4b0, c4b1⟩ := bY c4; clear c4
  (first | rw [c4b0] | (simp only [i64_w, i32_w]; rw [c4b0]) | skip)
  have H' := aK H; clear H; obtain ⟨hcz5_0, hcz5_1, hcz5_2⟩ := kC3 BK102.out; obtain ⟨hfz5_0, hfz5_1, hfz5_2⟩ := bF3 BK102.out
  go_wp2
  go_meet
  case rel => exact ⟨_, (false), sX, H', ⟨by first | omega | exact Nat.le_refl _⟩, ⟨kX BK102.out⟩, ⟨bX1 GE102.out⟩⟩
 case rest =>
  clear HC2
  try clear c2
  try clear p2
  try clear c4
  try clear c4b0
  try clear c4b1
  try clear c6
  try clear c6b0
  try clear c6b1
  try clear hcz5_0
  try clear hcz5_1
  try clear hcz5_2
  try clear hcz7_0
  try clear hcz7_1
  try clear hcz7_2
  try clear hcz8_0
  try clear hcz8_1
  try clear hcz8_2
  try clear hfz5_0
  try clear hfz5_1
  try clear hfz5_2
  try clear hfz7_0
  try clear hfz7_1
  try clear hfz7_2
  try clear hfz8_0
  try clear hfz8_1
  try clear hfz8_2
  obtain ⟨kq, x15_1, rfl, HA, HJ1, BK102, HB⟩ := hcut
  cases kq with
  | zero => exact absurd HA.out (by simp [chunk_mark.j0])
  | succ kj1 =>
   have H := HA.out; clear HA
   simp only [chunk_mark.j0] at H
   by_cases c9 : x15_1 = true
   rotate_left
   ·
    replace c9 := Bool.eq_false_iff.mpr c9; subst c9
    have H1 : (if a0_0 = 2 then (some (strOfNums (([a0_1, 43] : List Int)))) else (if a0_0 = 3 then (some (strOfNums (([a0_1, 45] : List Int)))) else (some (⟨#[]⟩ : ByteArray)))) = some r := by rw [if_neg (show ¬ (false = true) by decide)] at H; exact H
    clear H
    have H := H1
    clear H1
    by_cases c10 : a0_0 = 2
    rotate_left
    ·
     rw [if_neg c10] at H; obtain ⟨c10b0, c10b1⟩ := bN c10
     by_cases c15 : a0_0 = 3
     rotate_left
     ·
      rw [if_neg c15] at H; obtain ⟨c15b0, c15b1⟩ := bN c15; obtain rfl := oI H; obtain ⟨hcz20_0, hcz20_1, hcz20_2⟩ := kC3 BK102.out; obtain ⟨hfz20_0, hfz20_1, hfz20_2⟩ := bF3 BK102.out
      go_wp2
      go_ret
      exact ⟨eX, bX1 GE102.out⟩
     rw [if_pos c15] at H; obtain ⟨c15b0, c15b1⟩ := bY c15; clear c15
     obtain ⟨y106, hy106⟩ : ∃ y_ : List Int, y_ = (([a0_1, 45] : List Int)) := ⟨_, rfl⟩
     replace H : (some (strOfNums y106)) = some r := by first | (rw [hy106]; with_reducible exact H) | (have H2_ := (Option.bind_some _ _).symm.trans H; rw [hy106]; with_reducible exact H2_) | (have H2_ := (Option.bind_some _ _).symm.trans H; with_reducible exact H2_) | with_reducible exact H | (rw [hy106]; exact H) | exact H
     have Ny106 := aK hy106; clear hy106; obtain rfl := oI H; obtain ⟨hcz16_0, hcz16_1, hcz16_2⟩ := kC3 BK102.out; obtain ⟨hfz16_0, hfz16_1, hfz16_2⟩ := bF3 BK102.out
     go_wp2_with (first | ((with_reducible refine gate_dst (N := 28) rfl ?_); refine Kd.R_lit (Kd.int .u8) _ 5 ?hg (N := 28) ?hd (xs := ([a0_1, 45] : List Int)) (inner := [.int .u8 a0_1, .int .u8 45]) (ok := fun _ => True) (okp := fun _ => True) ?hr ?hp (fun _ hk => hk) trivial (Below.refl _ _) (Nat.le_refl _) (by simp) ?_; (case hd => rfl); (case hg => rfl); (case hr => first | (go_simp; done) | (go_simp; rfl)); (case hp => exact (Reps.one (show Kd.M (Kd.int .u8) _ _ _ a0_1 [.int .u8 a0_1] from rfl) (Reps.one (show Kd.M (Kd.int .u8) _ _ _ 45 [.int .u8 45] from rfl) (Reps.none _ _)))); intro v107 w17 ho18 hb hg_ hnew_; clear hg_ hnew_; (first | rw [← Ny106.out] at ho18 | (simp only [Int.reduceToNat] at ho18; rw [← Ny106.out] at ho18)); have HO108 := aK (Kd.R_lower ho18 (bSz (bX1 GE102.out))); replace BK102 := aK (kBe (g := gb102) (o := .cells #[.int .i64 a0_0, .int .u8 a0_1, .int .i64 a0_2] 42 (0, 0)) (kX BK102.out) hb); replace HB := aK (bSp (bX1 GE102.out) hb); clear hb ho18; have hcv19 := own_string (P := Tryz.prog) Tryz.underlying52 Tryz.underlying5 Tryz.underlying9 (Kd.own_of_R HO108.out)))
     go_ret
     exact ⟨eX, bX1 GE102.out⟩
    rw [if_pos c10] at H; obtain ⟨c10b0, c10b1⟩ := bY c10; clear c10
    obtain ⟨y103, hy103⟩ : ∃ y_ : List Int, y_ = (([a0_1, 43] : List Int)) := ⟨_, rfl⟩
    replace H : (some (strOfNums y103)) = some r := by first | (rw [hy103]; with_reducible exact H) | (have H2_ := (Option.bind_some _ _).symm.trans H; rw [hy103]; with_reducible exact H2_) | (have H2_ := (Option.bind_some _ _).symm.trans H; with_reducible exact H2_) | with_reducible exact H | (rw [hy103]; exact H) | exact H
    have Ny103 := aK hy103; clear hy103; obtain rfl := oI H; obtain ⟨hcz11_0, hcz11_1, hcz11_2⟩ := kC3 BK102.out; obtain ⟨hfz11_0, hfz11_1, hfz11_2⟩ := bF3 BK102.out
    go_wp2_with (first | ((with_reducible refine gate_dst (N := 22) rfl ?_); refine Kd.R_lit (Kd.int .u8) _ 5 ?hg (N := 22) ?hd (xs := ([a0_1, 43] : List Int)) (inner := [.int .u8 a0_1, .int .u8 43]) (ok := fun _ => True) (okp := fun _ => True) ?hr ?hp (fun _ hk => hk) trivial (Below.refl _ _) (Nat.le_refl _) (by simp) ?_; (case hd => rfl); (case hg => rfl); (case hr => first | (go_simp; done) | (go_simp; rfl)); (case hp => exact (Reps.one (show Kd.M (Kd.int .u8) _ _ _ a0_1 [.int .u8 a0_1] from rfl) (Reps.one (show Kd.M (Kd.int .u8) _ _ _ 43 [.int .u8 43] from rfl) (Reps.none _ _)))); intro v104 w12 ho13 hb hg_ hnew_; clear hg_ hnew_; (first | rw [← Ny103.out] at ho13 | (simp only [Int.reduceToNat] at ho13; rw [← Ny103.out] at ho13)); have HO105 := aK (Kd.R_lower ho13 (bSz (bX1 GE102.out))); replace BK102 := aK (kBe (g := gb102) (o := .cells #[.int .i64 a0_0, .int .u8 a0_1, .int .i64 a0_2] 42 (0, 0)) (kX BK102.out) hb); replace HB := aK (bSp (bX1 GE102.out) hb); clear hb ho13; have hcv14 := own_string (P := Tryz.prog) Tryz.underlying52 Tryz.underlying5 Tryz.underlying9 (Kd.own_of_R HO105.out)))
    go_ret
    exact ⟨eX, bX1 GE102.out⟩
   subst c9
   have H1 : (some (⟨#[]⟩ : ByteArray)) = some r := by rw [if_pos rfl] at H; exact H
   clear H
   have H := H1
   clear H1; obtain rfl := oI H
   go_wp2
   go_ret
   exact ⟨eX, bX1 GE102.out⟩
mutual
def chunk_Check.l0 : Nat → List (S42) → Int → Int → Option (Int)
 | 0, _, _, _ => none
 | k + 1, x5, x6, x7 => if x7 < x6 then (if 0 ≤ x7 then (if x7 < (x5.length : Int) then (if ((rd_T42 x5 x7).f0) = 1 then ((chars_Is.f ((rd_T42 x5 x7).f1)).bind fun t111 => (if t111 = true then (chunk_Check.j1 k x5 x6 x7 (((rd_T42 x5 x7).f1) != 32) ((rd_T42 x5 x7).f0) ((rd_T42 x5 x7).f1) ((rd_T42 x5 x7).f2)) else (chunk_Check.j1 k x5 x6 x7 false ((rd_T42 x5 x7).f0) ((rd_T42 x5 x7).f1) ((rd_T42 x5 x7).f2)))) else (chunk_Check.j1 k x5 x6 x7 false ((rd_T42 x5 x7).f0) ((rd_T42 x5 x7).f1) ((rd_T42 x5 x7).f2))) else (none)) else (none)) else (some 0)
def chunk_Check.j1 : Nat → List (S42) → Int → Int → Bool → Int → Int → Int → Option (Int)
 | 0, _, _, _, _, _, _, _ => none
 | k + 1, x5, x6, x7, x11, x111000, x111001, x111002 => if x11 = true then (chunk_Check.l0 k x5 x6 (wrap64 (x7 + 1))) else ((chunk_mark.f k x111000 x111001 x111002).bind fun t112 => (if t112.toList = ([] : List UInt8) then (some 1) else (chunk_Check.l0 k x5 x6 (wrap64 (x7 + 1)))))
end
def chunk_Check.f (k : Nat) (l0 : List (S42)) : Option (Int) := chunk_Check.l0 k l0 (l0.length : Int) 0
theorem chunk_Check.calls (k : Nat) (A0 : Option Addr) (c0 : Nat) (l0 : List (S42)) (r : Int) (w : World) (hr0 : Kd.C k42 w A0 l0.length l0) (hc0 : l0.length ≤ c0) (h : chunk_Check.f k l0 = some r) :
  Calls Tryz.prog 9 #[.slice A0 l0.length c0] w fun e w' => e = .returned (.int .i64 r) ∧ Below w.heap.size w w' := by
 have hu42 := Tryz.underlying42
 have HR0 := aK hr0
 have HC0 := aK hc0
 clear hr0 hc0
 have HB := aK (Below.refl w.heap.size w)
 have H : (chunk_Check.l0 k l0 (l0.length : Int) 0) = some r := h
 clear h
 have H' := aK H
 clear H
 go_enter Tryz.func9, Tryz.ntmps9
 go_wp2
 go_loopg [7] k (fun kq v7 w' => ∃ (x7_1 : Int), v7 = .int .i64 x7_1 ∧ Aside0 (chunk_Check.l0 kq l0 (l0.length : Int) x7_1 = some r) ∧ Aside0 (kq ≤ k) ∧ Aside0 (Below w.heap.size w w'))
 case atStart => exact ⟨(0), sX, H', ⟨Nat.le_refl _⟩, ⟨bX⟩⟩
 case round =>
  clear H'
  obtain ⟨x7_1, rfl, HA, HK1, HB⟩ := hrel
  cases gk with
  | zero => exact absurd HA.out (by simp [chunk_Check.l0])
  | succ k1 =>
   have H := HA.out; clear HA
   simp only [chunk_Check.l0] at H
   by_cases c2 : x7_1 < (l0.length : Int)
   rotate_left
   ·
    rw [if_neg c2] at H; have c2b0 : decide (x7_1 < (l0.length : Int)) = false := decide_eq_false c2; clear c2; obtain rfl := oI H
    go_wp2
    go_ret
    exact ⟨eX, bX⟩
   rw [if_pos c2] at H; have c2b0 : decide (x7_1 < (l0.length : Int)) = true := decide_eq_true c2; clear c2
   by_cases c3 : 0 ≤ x7_1
   rotate_left
   ·
    rw [if_neg c3] at H
    exact absurd H (by simp)
   rw [if_pos c3] at H; have c3b0 : decide (0 ≤ x7_1) = true := decide_eq_true c3; clear c3
   by_cases c4 : x7_1 < (l0.length : Int)
   rotate_left
   ·
    rw [if_neg c4] at H
    exact absurd H (by simp)
   rw [if_pos c4] at H; have c4b0 : decide (x7_1 < (l0.length : Int)) = true := decide_eq_true c4; clear c4; have HC5 := aK H; clear H; have p109 : 0 ≤ (x7_1 : Int) := oA; have q109 : x7_1 < (l0.length : Int) := oA
   obtain ⟨ad109, e109, hx109_0, hx109_1, hx109_2⟩ := at_T42 HR0.out x7_1 p109 q109
   cases e109
   replace hx109_0 := (HB.out.cell (World.block_lt_of_cell? w _ hx109_0)).trans hx109_0
   replace hx109_1 := (HB.out.cell (World.block_lt_of_cell? w _ hx109_1)).trans hx109_1
   replace hx109_2 := (HB.out.cell (World.block_lt_of_cell? w _ hx109_2)).trans hx109_2
   replace p109 := eq_true p109; replace q109 := eq_true q109
   go_upto_region 5 with (first | ((with_reducible refine gate_dst (N := 4) rfl ?_); refine box_event ?hg (N := 4) ?hd (cs := #[.int .i64 0, .int .u8 0, .int .i64 0]) (t := 42) ?hr ?_; (case hd => rfl); (case hg => rfl); (case hr => first | (go_simp; done) | (go_simp; rfl)); intro gb110 hg w6 hbox hb; have n0_ := aK (bSp bX hb); have n1_ := aK (hbox); have n2_ := aK ((by rw [hg]; exact (bSz bX) : w.heap.size ≤ gb110)); have n3_ := aK ((by rw [hg]; exact (bSz bX) : w.heap.size ≤ gb110)); clear HB; have HB := n0_; have BK110 := n1_; have GW110 := n2_; have GE110 := n3_; clear n0_ n1_ n2_ n3_; clear hb hbox hg; have hcz7_0 : w6.cell? ⟨gb110, 0, none⟩ = some (.int .i64 0) := (kCe BK110.out 0).trans rfl; have hcz7_1 : w6.cell? ⟨gb110, 1, none⟩ = some (.int .u8 0) := (kCe BK110.out 1).trans rfl; have hcz7_2 : w6.cell? ⟨gb110, 2, none⟩ = some (.int .i64 0) := (kCe BK110.out 2).trans rfl; have hfz7_0 := bFz BK110.out 0; have hfz7_1 := bFz BK110.out 1; have hfz7_2 := bFz BK110.out 2))
   (try simp only [Act.put, qSa, qS0, qS1])
   go_cut [11] (fun v11 wc => ∃ (kq : Nat) (x11_4 : Bool), v11 = .bool x11_4 ∧ Aside0 (chunk_Check.j1 kq l0 (l0.length : Int) x7_1 x11_4 ((rd_T42 l0 x7_1).f0) ((rd_T42 l0 x7_1).f1) ((rd_T42 l0 x7_1).f2) = some r) ∧ Aside0 (kq ≤ k1) ∧ Aside0 (wc.heap[gb110]? = some (.cells #[.int .i64 ((rd_T42 l0 x7_1).f0), .int .u8 ((rd_T42 l0 x7_1).f1), .int .i64 ((rd_T42 l0 x7_1).f2)] 42 (0, 0))) ∧ Aside0 (Below w.heap.size w wc))
   case first =>
    have H := HC5.out; clear HC5
    by_cases c8 : ((rd_T42 l0 x7_1).f0) = 1
    rotate_left
    ·
     rw [if_neg c8] at H; obtain ⟨c8b0, c8b1⟩ := bN c8
     (first | rw [c8b0] | (simp only [i64_w, i32_w]; rw [c8b0]) | skip)
     have H' := aK H; clear H; obtain ⟨hcz16_0, hcz16_1, hcz16_2⟩ := kC3 BK110.out; obtain ⟨hfz16_0, hfz16_1, hfz16_2⟩ := bF3 BK110.out
     go_wp2
     go_meet
     case rel => exact ⟨_, (false), sX, H', ⟨by have := HK1.out; first | omega | exact Nat.le_refl _⟩, ⟨by (with_reducible repeat (first | refine kDN ?_ _ | refine kDr ?_ | refine kAl ?_ _)); refine blk_put (cs := #[.int .i64 ((rd_T42 l0 x7_1).f0), .int .u8 ((rd_T42 l0 x7_1).f1), .int .i64 0]) ?_ 2 _ rfl; (with_reducible repeat (first | refine kDN ?_ _ | refine kDr ?_ | refine kAl ?_ _)); refine blk_put (cs := #[.int .i64 ((rd_T42 l0 x7_1).f0), .int .u8 0, .int .i64 0]) ?_ 1 _ rfl; (with_reducible repeat (first | refine kDN ?_ _ | refine kDr ?_ | refine kAl ?_ _)); refine blk_put (cs := #[.int .i64 0, .int .u8 0, .int .i64 0]) ?_ 0 _ rfl; (with_reducible repeat (first | refine kDN ?_ _ | refine kDr ?_ | refine kAl ?_ _)); exact BK110.out⟩, ⟨bX1 GE110.out⟩⟩
    rw [if_pos c8] at H; obtain ⟨c8b0, c8b1⟩ := bY c8; clear c8
    (first | rw [c8b0] | (simp only [i64_w, i32_w]; rw [c8b0]) | skip)
    obtain ⟨t111, A9, H⟩ := oC H
    try dsimp only at H
    by_cases c10 : t111 = true
    rotate_left
    ·
     replace c10 := Bool.eq_false_iff.mpr c10; subst c10
     have H1 : (chunk_Check.j1 k1 l0 (l0.length : Int) x7_1 false ((rd_T42 l0 x7_1).f0) ((rd_T42 l0 x7_1).f1) ((rd_T42 l0 x7_1).f2)) = some r := by rw [if_neg (show ¬ (false = true) by decide)] at H; exact H
     clear H
     have H := H1
     clear H1; have H' := aK H; clear H; obtain ⟨hcz14_0, hcz14_1, hcz14_2⟩ := kC3 BK110.out; obtain ⟨hfz14_0, hfz14_1, hfz14_2⟩ := bF3 BK110.out
     go_wp2_with (first | (go_at_call 26; (with_reducible refine (chars_Is.calls ((rd_T42 l0 x7_1).f1) false _ A9.out).mono ?_); rintro e w15 ⟨rfl, hb⟩; have n0_ := aK (kBe (g := gb110) (o := .cells #[.int .i64 ((rd_T42 l0 x7_1).f0), .int .u8 ((rd_T42 l0 x7_1).f1), .int .i64 ((rd_T42 l0 x7_1).f2)] 42 (0, 0)) (by (with_reducible repeat (first | refine kDN ?_ _ | refine kDr ?_ | refine kAl ?_ _)); refine blk_put (cs := #[.int .i64 ((rd_T42 l0 x7_1).f0), .int .u8 ((rd_T42 l0 x7_1).f1), .int .i64 0]) ?_ 2 _ rfl; (with_reducible repeat (first | refine kDN ?_ _ | refine kDr ?_ | refine kAl ?_ _)); refine blk_put (cs := #[.int .i64 ((rd_T42 l0 x7_1).f0), .int .u8 0, .int .i64 0]) ?_ 1 _ rfl; (with_reducible repeat (first | refine kDN ?_ _ | refine kDr ?_ | refine kAl ?_ _)); refine blk_put (cs := #[.int .i64 0, .int .u8 0, .int .i64 0]) ?_ 0 _ rfl; (with_reducible repeat (first | refine kDN ?_ _ | refine kDr ?_ | refine kAl ?_ _)); exact BK110.out) hb); have n1_ := aK (bSp (bX1 GE110.out) hb); clear BK110; clear HB; have BK110 := n0_; have HB := n1_; clear n0_ n1_; clear hb))
     go_meet
     case rel => exact ⟨_, (false), sX, H', ⟨by have := HK1.out; first | omega | exact Nat.le_refl _⟩, ⟨kX BK110.out⟩, ⟨bX1 GE110.out⟩⟩
    subst c10
    have H1 : (chunk_Check.j1 k1 l0 (l0.length : Int) x7_1 (((rd_T42 l0 x7_1).f1) != 32) ((rd_T42 l0 x7_1).f0) ((rd_T42 l0 x7_1).f1) ((rd_T42 l0 x7_1).f2)) = some r := by rw [if_pos rfl] at H; exact H
    clear H
    have H := H1
    clear H1; have H' := aK H; clear H; obtain ⟨hcz11_0, hcz11_1, hcz11_2⟩ := kC3 BK110.out; obtain ⟨hfz11_0, hfz11_1, hfz11_2⟩ := bF3 BK110.out
    go_wp2_with (first | (go_at_call 26; (with_reducible refine (chars_Is.calls ((rd_T42 l0 x7_1).f1) true _ A9.out).mono ?_); rintro e w12 ⟨rfl, hb⟩; have n0_ := aK (kBe (g := gb110) (o := .cells #[.int .i64 ((rd_T42 l0 x7_1).f0), .int .u8 ((rd_T42 l0 x7_1).f1), .int .i64 ((rd_T42 l0 x7_1).f2)] 42 (0, 0)) (by (with_reducible repeat (first | refine kDN ?_ _ | refine kDr ?_ | refine kAl ?_ _)); refine blk_put (cs := #[.int .i64 ((rd_T42 l0 x7_1).f0), .int .u8 ((rd_T42 l0 x7_1).f1), .int .i64 0]) ?_ 2 _ rfl; (with_reducible repeat (first | refine kDN ?_ _ | refine kDr ?_ | refine kAl ?_ _)); refine blk_put (cs := #[.int .i64 ((rd_T42 l0 x7_1).f0), .int .u8 0, .int .i64 0]) ?_ 1 _ rfl; (with_reducible repeat (first | refine kDN ?_ _ | refine kDr ?_ | refine kAl ?_ _)); refine blk_put (cs := #[.int .i64 0, .int .u8 0, .int .i64 0]) ?_ 0 _ rfl; (with_reducible repeat (first | refine kDN ?_ _ | refine kDr ?_ | refine kAl ?_ _)); exact BK110.out) hb); have n1_ := aK (bSp (bX1 GE110.out) hb); clear BK110; clear HB; have BK110 := n0_; have HB := n1_; clear n0_ n1_; clear hb; have hcz13_0 : w12.cell? ⟨gb110, 0, none⟩ = some (.int .i64 ((rd_T42 l0 x7_1).f0)) := (kCe BK110.out 0).trans rfl; have hcz13_1 : w12.cell? ⟨gb110, 1, none⟩ = some (.int .u8 ((rd_T42 l0 x7_1).f1)) := (kCe BK110.out 1).trans rfl; have hcz13_2 : w12.cell? ⟨gb110, 2, none⟩ = some (.int .i64 ((rd_T42 l0 x7_1).f2)) := (kCe BK110.out 2).trans rfl; have hfz13_0 := bFz BK110.out 0; have hfz13_1 := bFz BK110.out 1; have hfz13_2 := bFz BK110.out 2))
    go_meet
    case rel => exact ⟨_, ((((rd_T42 l0 x7_1).f1) != 32)), sX, H', ⟨by have := HK1.out; first | omega | exact Nat.le_refl _⟩, ⟨kX BK110.out⟩, ⟨bX1 GE110.out⟩⟩
   case rest =>
    clear HC5
    try clear c1
    try clear p1
    try clear q1
    try clear hx1
    try clear c2
    try clear c2b0
    try clear p2
    try clear c3
    try clear c3b0
    try clear c4
    try clear c4b0
    try clear c8
    try clear c8b0
    try clear c8b1
    try clear c9
    try clear c10
    try clear p10
    try clear q10
    try clear hx10
    try clear hcz11_0
    try clear hcz11_1
    try clear hcz11_2
    try clear hcz13_0
    try clear hcz13_1
    try clear hcz13_2
    try clear hcz14_0
    try clear hcz14_1
    try clear hcz14_2
    try clear hcz16_0
    try clear hcz16_1
    try clear hcz16_2
    try clear hcz7_0
    try clear hcz7_1
    try clear hcz7_2
    try clear hfz11_0
    try clear hfz11_1
    try clear hfz11_2
    try clear hfz13_0
    try clear hfz13_1
    try clear hfz13_2
    try clear hfz14_0
    try clear hfz14_1
    try clear hfz14_2
    try clear hfz16_0
    try clear hfz16_1
    try clear hfz16_2
    try clear hfz7_0
    try clear hfz7_1
    try clear hfz7_2
    try clear hx109_0
    try clear hx109_1
    try clear hx109_2
    try clear p109
    try clear q109
    obtain ⟨kq, x11_4, rfl, HA, HJ4, BK110, HB⟩ := hcut
    cases kq with
    | zero => exact absurd HA.out (by simp [chunk_Check.j1])
    | succ kj4 =>
     have H := HA.out; clear HA
     simp only [chunk_Check.j1] at H
     by_cases c17 : x11_4 = true
     rotate_left
     ·
      replace c17 := Bool.eq_false_iff.mpr c17; subst c17
      have H1 : ((chunk_mark.f kj4 ((rd_T42 l0 x7_1).f0) ((rd_T42 l0 x7_1).f1) ((rd_T42 l0 x7_1).f2)).bind fun t112 => (if t112.toList = ([] : List UInt8) then (some 1) else (chunk_Check.l0 kj4 l0 (l0.length : Int) (wrap64 (x7_1 + 1))))) = some r := by rw [if_neg (show ¬ (false = true) by decide)] at H; exact H
      clear H
      have H := H1
      clear H1; obtain ⟨t112, A18, H⟩ := oC H
      try dsimp only at H
      by_cases c19 : t112.toList = ([] : List UInt8)
      rotate_left
      ·
       rw [if_neg c19] at H; obtain ⟨c19b0, c19b1⟩ := bN c19; have H' := aK H; clear H; obtain ⟨hcz22_0, hcz22_1, hcz22_2⟩ := kC3 BK110.out; obtain ⟨hfz22_0, hfz22_1, hfz22_2⟩ := bF3 BK110.out
       go_wp2_with (first | ((with_reducible refine gate_callee (f := 27) rfl ?_); refine gO 27 Tryz.func27 #[.agg #[.int .i64 ((rd_T42 l0 x7_1).f0), .int .u8 ((rd_T42 l0 x7_1).f1), .int .i64 ((rd_T42 l0 x7_1).f2)]] ?_; (with_reducible refine (chunk_mark.calls kj4 ((rd_T42 l0 x7_1).f0) ((rd_T42 l0 x7_1).f1) ((rd_T42 l0 x7_1).f2) t112 _ A18.out).mono ?_); rintro e w23 ⟨rfl, hb⟩; refine ⟨_, rfl, ?_⟩; replace BK110 := aK (kBe (g := gb110) (o := .cells #[.int .i64 ((rd_T42 l0 x7_1).f0), .int .u8 ((rd_T42 l0 x7_1).f1), .int .i64 ((rd_T42 l0 x7_1).f2)] 42 (0, 0)) (kX BK110.out) hb); replace HB := aK (bSp (bX1 GE110.out) hb); clear hb))
       go_roundg kj4
       case measure => have := HK1.out; have := HJ4.out; omega
       case rel => exact ⟨(wrap64 (x7_1 + 1)), sX, H', ⟨by have := HK1.out; have := HJ4.out; omega⟩, ⟨bX1 GE110.out⟩⟩
      rw [if_pos c19] at H; obtain ⟨c19b0, c19b1⟩ := bY c19; clear c19; obtain rfl := oI H; obtain ⟨hcz20_0, hcz20_1, hcz20_2⟩ := kC3 BK110.out; obtain ⟨hfz20_0, hfz20_1, hfz20_2⟩ := bF3 BK110.out
      go_wp2_with (first | ((with_reducible refine gate_callee (f := 27) rfl ?_); refine gO 27 Tryz.func27 #[.agg #[.int .i64 ((rd_T42 l0 x7_1).f0), .int .u8 ((rd_T42 l0 x7_1).f1), .int .i64 ((rd_T42 l0 x7_1).f2)]] ?_; (with_reducible refine (chunk_mark.calls kj4 ((rd_T42 l0 x7_1).f0) ((rd_T42 l0 x7_1).f1) ((rd_T42 l0 x7_1).f2) t112 _ A18.out).mono ?_); rintro e w21 ⟨rfl, hb⟩; refine ⟨_, rfl, ?_⟩; replace BK110 := aK (kBe (g := gb110) (o := .cells #[.int .i64 ((rd_T42 l0 x7_1).f0), .int .u8 ((rd_T42 l0 x7_1).f1), .int .i64 ((rd_T42 l0 x7_1).f2)] 42 (0, 0)) (kX BK110.out) hb); replace HB := aK (bSp (bX1 GE110.out) hb); clear hb))
      go_ret
      exact ⟨eX, bX1 GE110.out⟩
     subst c17
     have H1 : (chunk_Check.l0 kj4 l0 (l0.length : Int) (wrap64 (x7_1 + 1))) = some r := by rw [if_pos rfl] at H; exact H
     clear H
     have H := H1
     clear H1; have H' := aK H; clear H
     go_wp2
     go_roundg kj4
     case measure => have := HK1.out; have := HJ4.out; omega
     case rel => exact ⟨(wrap64 (x7_1 + 1)), sX, H', ⟨by have := HK1.out; have := HJ4.out; omega⟩, ⟨bX1 GE110.out⟩⟩
def chunk_text.l0 : Nat → List Int → List (S42) → Int → Int → Option (ByteArray)
 | 0, _, _, _, _ => none
 | k + 1, x3, x6, x7, x8 => if x8 < x7 then (if 0 ≤ x8 then (if x8 < (x6.length : Int) then (if x3.length < 140737488355328 then (chunk_text.l0 k (x3 ++ [(rd_T42 x6 x8).f1]) x6 x7 (wrap64 (x8 + 1))) else (none)) else (none)) else (none)) else (some (strOfNums x3))
def chunk_text.f (k : Nat) (l0 : List (S42)) : Option (ByteArray) := chunk_text.l0 k ([] : List Int) l0 (l0.length : Int) 0
theorem chunk_text.calls (k : Nat) (A0 : Option Addr) (c0 : Nat) (l0 : List (S42)) (r : ByteArray) (w : World) (hr0 : Kd.C k42 w A0 l0.length l0) (hc0 : l0.length ≤ c0) (h : chunk_text.f k l0 = some r) :
  Calls Tryz.prog 46 #[.slice A0 l0.length c0] w fun e w' => e = .returned (.string r) ∧ Below w.heap.size w w' := by
 have hu42 := Tryz.underlying42
 have HR0 := aK hr0
 have HC0 := aK hc0
 clear hr0 hc0
 have HB := aK (Below.refl w.heap.size w)
 have H : (chunk_text.l0 k ([] : List Int) l0 (l0.length : Int) 0) = some r := h
 clear h
 have H' := aK H
 clear H
 go_enter Tryz.func46, Tryz.ntmps46
 go_wp2
 go_loopg [3, 8] k (fun kq v3 v8 w' => ∃ (x3_1 : List Int) (x8_1 : Int), v8 = .int .i64 x8_1 ∧ Aside0 (chunk_text.l0 kq x3_1 l0 (l0.length : Int) x8_1 = some r) ∧ Aside0 (kq ≤ k) ∧ Aside0 (Kd.R (Kd.int .u8) 5 w' w.heap.size (fun _ => True) v3 x3_1) ∧ Aside0 (Below w.heap.size w w'))
 case atStart => exact ⟨(([] : List Int)), (0), sX, H', ⟨Nat.le_refl _⟩, ⟨by first | exact Kd.R_nil _ _ _ _ _ | exact Kd.N_nil _ _ _ _ _ | exact Kd.V_nil _ _ _ _ _ | exact Kd.Q_nil _ _ _ _ _ | exact Kd.S_nil _ _ _ _ _⟩, ⟨bX⟩⟩
 case round =>
  clear H'
  obtain ⟨x3_1, x8_1, rfl, HA, HK1, HO_3, HB⟩ := hrel
  cases gk with
  | zero => exact absurd HA.out (by simp [chunk_text.l0])
  | succ k1 =>
   have H := HA.out; clear HA
   simp only [chunk_text.l0] at H
   by_cases c2 : x8_1 < (l0.length : Int)
   rotate_left
   ·
    rw [if_neg c2] at H; have c2b0 : decide (x8_1 < (l0.length : Int)) = false := decide_eq_false c2; clear c2; obtain rfl := oI H
    have hcv9 := own_string (P := Tryz.prog) Tryz.underlying52 Tryz.underlying5 Tryz.underlying9 (Kd.own_of_R HO_3.out)
    go_wp2
    go_ret
    exact ⟨eX, bX⟩
   rw [if_pos c2] at H; have c2b0 : decide (x8_1 < (l0.length : Int)) = true := decide_eq_true c2; clear c2
   by_cases c3 : 0 ≤ x8_1
   rotate_left
   ·
    rw [if_neg c3] at H
    exact absurd H (by simp)
   rw [if_pos c3] at H; have c3b0 : decide (0 ≤ x8_1) = true := decide_eq_true c3; clear c3
   by_cases c4 : x8_1 < (l0.length : Int)
   rotate_left
   ·
    rw [if_neg c4] at H
    exact absurd H (by simp)
   rw [if_pos c4] at H; have c4b0 : decide (x8_1 < (l0.length : Int)) = true := decide_eq_true c4; clear c4
   by_cases c5 : x3_1.length < 140737488355328
   rotate_left
   ·
    rw [if_neg c5] at H
    exact absurd H (by simp)
   rw [if_pos c5] at H; have LMc5 := aK c5; clear c5
   obtain ⟨y115, hy115⟩ : ∃ y_ : List Int, y_ = (x3_1 ++ [(rd_T42 l0 x8_1).f1]) := ⟨_, rfl⟩
   replace H : (chunk_text.l0 k1 y115 l0 (l0.length : Int) (wrap64 (x8_1 + 1))) = some r := by first | (rw [hy115]; with_reducible exact H) | (have H2_ := (Option.bind_some _ _).symm.trans H; rw [hy115]; with_reducible exact H2_) | (have H2_ := (Option.bind_some _ _).symm.trans H; with_reducible exact H2_) | with_reducible exact H | (rw [hy115]; exact H) | exact H
   have Ny115 := aK hy115; clear hy115; have H' := aK H; clear H; have p113 : 0 ≤ (x8_1 : Int) := oA; have q113 : x8_1 < (l0.length : Int) := oA
   obtain ⟨ad113, e113, hx113_0, hx113_1, hx113_2⟩ := at_T42 HR0.out x8_1 p113 q113
   cases e113
   replace hx113_0 := (HB.out.cell (World.block_lt_of_cell? w _ hx113_0)).trans hx113_0
   replace hx113_1 := (HB.out.cell (World.block_lt_of_cell? w _ hx113_1)).trans hx113_1
   replace hx113_2 := (HB.out.cell (World.block_lt_of_cell? w _ hx113_2)).trans hx113_2
   replace p113 := eq_true p113; replace q113 := eq_true q113
   go_wp2_with (first | ((with_reducible refine gate_dst (N := 5) rfl ?_); refine box_event ?hg (N := 5) ?hd (cs := #[.int .i64 0, .int .u8 0, .int .i64 0]) (t := 42) ?hr ?_; (case hd => rfl); (case hg => rfl); (case hr => first | (go_simp; done) | (go_simp; rfl)); intro gb114 hg w6 hbox hb; have n0_ := aK (Kd.R_below (rX HO_3.out) hb); have n1_ := aK (bSp bX hb); have n2_ := aK (hbox); have n3_ := aK ((by rw [hg]; exact (bSz bX) : w.heap.size ≤ gb114)); have n4_ := aK ((by rw [hg]; exact (bSz bX) : w.heap.size ≤ gb114)); clear HO_3; clear HB; have HO_3 := n0_; have HB := n1_; have BK114 := n2_; have GW114 := n3_; have GE114 := n4_; clear n0_ n1_ n2_ n3_ n4_; clear hb hbox hg; have hcz7_0 : w6.cell? ⟨gb114, 0, none⟩ = some (.int .i64 0) := (kCe BK114.out 0).trans rfl; have hcz7_1 : w6.cell? ⟨gb114, 1, none⟩ = some (.int .u8 0) := (kCe BK114.out 1).trans rfl; have hcz7_2 : w6.cell? ⟨gb114, 2, none⟩ = some (.int .i64 0) := (kCe BK114.out 2).trans rfl; have hfz7_0 := bFz BK114.out 0; have hfz7_1 := bFz BK114.out 1; have hfz7_2 := bFz BK114.out 2) | ((with_reducible refine gate_builtin (b := .append) (xs := #[.tmp 12, .tmp 15]) rfl ?_); at_builtin; refine Kd.R_append (Kd.int .u8) (w0 := w) w.heap.size rfl (.tmp 12) (.tmp 15) 52 5 (.int .u8 0) 1 rfl Tryz.underlying52 info5 rfl (by decide) (by omega) u3 x3_1 ((rd_T42 l0 x8_1).f1) [.int .u8 ((rd_T42 l0 x8_1).f1)] (fun _ => True) (fun _ => False) rfl (by first | (go_simp; done) | (go_simp; rfl)) ?aP (fun _ hk => hk.elim) ?aF ?aO ?aB ?aS ?aL ?_; (case aP => exact rfl); (case aB => exact (bX1 GE114.out)); (case aF => exact (fun _ _ => trivial)); (case aO => exact (by (with_reducible repeat (first | apply Kd.R_alloc | apply Kd.R_drewN | apply Kd.R_drew)); exact Kd.R_mono (Kd.R_far (p := ⟨gb114, 2, none⟩) (Kd.R_far (p := ⟨gb114, 1, none⟩) (Kd.R_far (p := ⟨gb114, 0, none⟩) (Kd.R_types HO_3.out BK114.out (by decide)) (fun _ hk => hk.2) (.int .i64 ((rd_T42 l0 x8_1).f0))) (fun _ hk => hk.2) (.int .u8 ((rd_T42 l0 x8_1).f1))) (fun _ hk => hk.2) (.int .i64 ((rd_T42 l0 x8_1).f2))) (fun _ hk => trivial))); (case aS => exact (bSz (bX1 GE114.out))); (case aL => have := LMc5.out; omega); intro v116 w8 ho hb hg hat; rw [← Ny115.out] at ho; have n0_ := aK (blk_grown (g := gb114) (o := .cells #[.int .i64 ((rd_T42 l0 x8_1).f0), .int .u8 ((rd_T42 l0 x8_1).f1), .int .i64 ((rd_T42 l0 x8_1).f2)] 42 (0, 0)) (by (with_reducible repeat (first | refine kDN ?_ _ | refine kDr ?_ | refine kAl ?_ _)); refine blk_put (cs := #[.int .i64 ((rd_T42 l0 x8_1).f0), .int .u8 ((rd_T42 l0 x8_1).f1), .int .i64 0]) ?_ 2 _ rfl; (with_reducible repeat (first | refine kDN ?_ _ | refine kDr ?_ | refine kAl ?_ _)); refine blk_put (cs := #[.int .i64 ((rd_T42 l0 x8_1).f0), .int .u8 0, .int .i64 0]) ?_ 1 _ rfl; (with_reducible repeat (first | refine kDN ?_ _ | refine kDr ?_ | refine kAl ?_ _)); refine blk_put (cs := #[.int .i64 0, .int .u8 0, .int .i64 0]) ?_ 0 _ rfl; (with_reducible repeat (first | refine kDN ?_ _ | refine kDr ?_ | refine kAl ?_ _)); exact BK114.out) hg (Kd.R_ne HO_3.out BK114.out (by decide))); have n1_ := aK (hb); have n2_ := aK (ho); clear BK114; clear HB; clear HO_3; have BK114 := n0_; have HB := n1_; have HO117 := n2_; clear n0_ n1_ n2_; clear ho hb hg hat))
   go_roundg k1
   case measure => have := HK1.out; omega
   case rel => exact ⟨(y115), (wrap64 (x8_1 + 1)), sX, H', ⟨by have := HK1.out; omega⟩, ⟨rX HO117.out⟩, ⟨bX1 GE114.out⟩⟩
def chunk_small.l0 : Nat → ByteArray → Int → Int → Option (Int)
 | 0, _, _, _ => none
 | k + 1, x0, x1, x5 => if (wrap64 (x1 + x5)) < (x0.size : Int) then (if 0 ≤ (wrap64 (x1 + x5)) then ((chars_Class.f (bt x0 (wrap64 (x1 + x5)))).bind fun t118 => (if t118 = 1 then (chunk_small.l0 k x0 x1 (wrap64 (x5 + 1))) else (some x5))) else (none)) else (some x5)
def chunk_small.f (k : Nat) (a0 : ByteArray) (a1 : Int) : Option (Int) := chunk_small.l0 k a0 a1 0
theorem chunk_small.calls (k : Nat) (a0 : ByteArray) (a1 : Int) (r : Int) (w : World) (h : chunk_small.f k a0 a1 = some r) :
  Calls Tryz.prog 118 #[.string a0, .int .i64 a1] w fun e w' => e = .returned (.int .i64 r) ∧ Below w.heap.size w w' := by
 have HB := aK (Below.refl w.heap.size w)
 have H : (chunk_small.l0 k a0 a1 0) = some r := h
 clear h
 have H' := aK H
 clear H
 go_enter Tryz.func118, Tryz.ntmps118
 go_wp2
 go_loopg [5] k (fun kq v5 w' => ∃ (x5_1 : Int), v5 = .int .i64 x5_1 ∧ Aside0 (chunk_small.l0 kq a0 a1 x5_1 = some r) ∧ Aside0 (kq ≤ k) ∧ Aside0 (Below w.heap.size w w'))
 case atStart => exact ⟨(0), sX, H', ⟨Nat.le_refl _⟩, ⟨bX⟩⟩
 case round =>
  clear H'
  try clear c1
  try clear p2
  obtain ⟨x5_1, rfl, HA, HK1, HB⟩ := hrel
  cases gk with
  | zero => exact absurd HA.out (by simp [chunk_small.l0])
  | succ k1 =>
   have H := HA.out; clear HA
   simp only [chunk_small.l0] at H
   by_cases c3 : (wrap64 (a1 + x5_1)) < (a0.size : Int)
   rotate_left
   ·
    rw [if_neg c3] at H; have c3b0 : decide ((wrap64 (a1 + x5_1)) < (a0.size : Int)) = false := decide_eq_false c3; clear c3; obtain rfl := oI H
    go_wp2
    go_ret
    exact ⟨eX, bX⟩
   rw [if_pos c3] at H; have c3b0 : decide ((wrap64 (a1 + x5_1)) < (a0.size : Int)) = true := decide_eq_true c3; clear c3
   obtain ⟨ji4, hji4⟩ : ∃ j_ : Int, (wrap64 (a1 + x5_1)) = j_ := ⟨_, rfl⟩
   replace H : (if 0 ≤ (ji4) then ((chars_Class.f (bt a0 (ji4))).bind fun t118 => (if t118 = 1 then (chunk_small.l0 k1 a0 a1 (wrap64 (x5_1 + 1))) else (some x5_1))) else (none)) = some r := by first | (rw [hji4] at H; exact H) | (simp only [hji4] at H ⊢; exact H)
   (try rw [hji4] at c3b0)
   have hji4w : (IntKind.i64.wrap (a1 + x5_1)) = ji4 := (i64_w _).trans hji4
   by_cases c5 : 0 ≤ (ji4)
   rotate_left
   ·
    rw [if_neg c5] at H
    exact absurd H (by simp)
   rw [if_pos c5] at H; have c5b0 : decide (0 ≤ (ji4)) = true := decide_eq_true c5; clear c5; obtain ⟨t118, A7, H⟩ := oC H
   try dsimp only at H
   by_cases c8 : t118 = 1
   rotate_left
   ·
    rw [if_neg c8] at H; obtain ⟨c8b0, c8b1⟩ := bN c8; obtain rfl := oI H; have p6 : 0 ≤ ((ji4) : Int) := oA; have q6 : (ji4) < (a0.size : Int) := oA
    have hx6 := bt_at a0 (ji4)
    replace p6 := eq_true p6; replace q6 := eq_true q6
    go_wp2_with (first | (go_at_call 62; (with_reducible refine (chars_Class.calls (bt a0 (ji4)) t118 _ A7.out).mono ?_); rintro e w10 ⟨rfl, hb⟩; replace HB := aK (bSp bX hb); clear hb))
    go_ret
    exact ⟨by first | rfl | (simp [eWn, eWs] <;> rfl) | (simp only [← hji4]; first | rfl | (simp [eWn, eWs] <;> rfl)) | (simp [*, eWn, eWs] <;> rfl), bX⟩
   rw [if_pos c8] at H; obtain ⟨c8b0, c8b1⟩ := bY c8; clear c8; have H' := aK H; clear H; have p6 : 0 ≤ ((ji4) : Int) := oA; have q6 : (ji4) < (a0.size : Int) := oA
   have hx6 := bt_at a0 (ji4)
   replace p6 := eq_true p6; replace q6 := eq_true q6
   go_wp2_with (first | (go_at_call 62; (with_reducible refine (chars_Class.calls (bt a0 (ji4)) t118 _ A7.out).mono ?_); rintro e w9 ⟨rfl, hb⟩; replace HB := aK (bSp bX hb); clear hb))
   go_roundg k1
   case measure => have := HK1.out; omega
   case rel => exact ⟨(wrap64 (x5_1 + 1)), sX, H', ⟨by have := HK1.out; omega⟩, ⟨bX⟩⟩
def chunk_ready.f (k : Nat) (a0 : Tr) (l1 : List (S42)) : Option (Int) := (trie_Trie_Rules.f a0).bind fun t119 => (if (t119.length : Int) = 0 then (some 1) else ((chunk_Check.f k l1).bind fun t122 => (some t122)))
theorem chunk_ready.calls (k : Nat) (a0 : Tr) (A1 : Option Addr) (c1 : Nat) (l1 : List (S42)) (r : Int) (w : World) (hT0 : Tr.Is w a0) (hr1 : Kd.C k42 w A1 l1.length l1) (hc1 : l1.length ≤ c1) (h : chunk_ready.f k a0 l1 = some r) :
  Calls Tryz.prog 42 #[a0.v, .slice A1 l1.length c1] w fun e w' => e = .returned (.int .i64 r) ∧ Below w.heap.size w w' := by
 have HT0 := aK hT0
 clear hT0
 have HR1 := aK hr1
 have HC1 := aK hc1
 clear hr1 hc1
 have HB := aK (Below.refl w.heap.size w)
 have H : ((trie_Trie_Rules.f a0).bind fun t119 => (if (t119.length : Int) = 0 then (some 1) else ((chunk_Check.f k l1).bind fun t122 => (some t122)))) = some r := h
 clear h
 obtain ⟨t119, A3, H⟩ := oC H
 try dsimp only at H
 by_cases c4 : (t119.length : Int) = 0
 rotate_left
 ·
  rw [if_neg c4] at H; obtain ⟨c4b0, c4b1⟩ := bN c4
  have c4b2 : ¬ (t119 = []) := fun h_ => c4 (by rw [h_]; rfl)
  replace H := oB H
  obtain ⟨t122, A70, H⟩ := H
  replace H : (some t122) = some r := H
  have A7 := aK A70; clear A70; obtain rfl := oI H
  go_enter Tryz.func42, Tryz.ntmps42
  go_wp2_with (first | ((with_reducible refine gate_callee (f := 59) rfl ?_); refine gO 6 Tryz.func59 #[a0.v] ?_; (with_reducible refine (trie_Trie_Rules.calls a0 t119 _ ?side1 A3.out).mono ?_); (case side1 => exact Tr.Is.below HT0.out bX); rintro e w8 ⟨v120, rfl, ho0, hb⟩; refine ⟨_, rfl, ?_⟩; have HO121 := aK (Kd.R_lower ho0 (bSz bX)); replace HB := aK (bSp bX hb); clear hb; clear ho0; obtain ⟨Ao9, co9, eo9⟩ := Kd.R_slice HO121.out; subst eo9) | ((with_reducible refine gate_callee (f := 9) rfl ?_); refine gO 10 Tryz.func9 #[.slice A1 l1.length c1] ?_; (with_reducible refine (chunk_Check.calls k _ _ l1 t122 _ ?side1 ?side2 A7.out).mono ?_); (case side1 => exact cX HR1.out); (case side2 => exact HC1.out); rintro e w10 ⟨rfl, hb⟩; refine ⟨_, rfl, ?_⟩; replace HO121 := aK (Kd.R_below (rX HO121.out) hb); replace HB := aK (bSp bX hb); clear hb))
  go_ret
  exact ⟨eX, bX⟩
 rw [if_pos c4] at H
 obtain ⟨c4b0, c4b1⟩ := bY c4
 clear c4
 obtain rfl := oI H
 go_enter Tryz.func42, Tryz.ntmps42
 go_wp2_with (first | ((with_reducible refine gate_callee (f := 59) rfl ?_); refine gO 6 Tryz.func59 #[a0.v] ?_; (with_reducible refine (trie_Trie_Rules.calls a0 t119 _ ?side1 A3.out).mono ?_); (case side1 => exact Tr.Is.below HT0.out bX); rintro e w5 ⟨v120, rfl, ho0, hb⟩; refine ⟨_, rfl, ?_⟩; have HO121 := aK (Kd.R_lower ho0 (bSz bX)); replace HB := aK (bSp bX hb); clear hb; clear ho0; obtain ⟨Ao6, co6, eo6⟩ := Kd.R_slice HO121.out; subst eo6))
 go_ret
 exact ⟨eX, bX⟩
def chunk_digit.f (a0_0 : Int) (a0_1 : Int) (a0_2 : Int) : Option (Bool) := if a0_0 = 1 then ((chars_Class.f a0_1).bind fun t124 => (some (t124 == 3))) else (some false)
theorem chunk_digit.calls (a0_0 : Int) (a0_1 : Int) (a0_2 : Int) (r : Bool) (w : World) (h : chunk_digit.f a0_0 a0_1 a0_2 = some r) :
  Calls Tryz.prog 91 #[.agg #[.int .i64 a0_0, .int .u8 a0_1, .int .i64 a0_2]] w fun e w' => e = .returned (.bool r) ∧ Below w.heap.size w w' := by
 have hu42 := Tryz.underlying42
 have HB := aK (Below.refl w.heap.size w)
 have H : (if a0_0 = 1 then ((chars_Class.f a0_1).bind fun t124 => (some (t124 == 3))) else (some false)) = some r := h
 clear h
 by_cases c2 : a0_0 = 1
 rotate_left
 ·
  rw [if_neg c2] at H; obtain ⟨c2b0, c2b1⟩ := bN c2; obtain rfl := oI H
  go_enter Tryz.func91, Tryz.ntmps91
  go_wp2_with (first | ((with_reducible refine gate_dst (N := 1) rfl ?_); refine box_event ?hg (N := 1) ?hd (cs := #[.int .i64 a0_0, .int .u8 a0_1, .int .i64 a0_2]) (t := 42) ?hr ?_; (case hd => rfl); (case hg => rfl); (case hr => first | (go_simp; done) | (go_simp; rfl)); intro gb123 hg w7 hbox hb; have n0_ := aK (bSp bX hb); have n1_ := aK (hbox); have n2_ := aK ((by rw [hg]; exact (bSz bX) : w.heap.size ≤ gb123)); have n3_ := aK ((by rw [hg]; exact (bSz bX) : w.heap.size ≤ gb123)); clear HB; have HB := n0_; have BK123 := n1_; have GW123 := n2_; have GE123 := n3_; clear n0_ n1_ n2_ n3_; clear hb hbox hg; have hcz8_0 : w7.cell? ⟨gb123, 0, none⟩ = some (.int .i64 a0_0) := (kCe BK123.out 0).trans rfl; have hcz8_1 : w7.cell? ⟨gb123, 1, none⟩ = some (.int .u8 a0_1) := (kCe BK123.out 1).trans rfl; have hcz8_2 : w7.cell? ⟨gb123, 2, none⟩ = some (.int .i64 a0_2) := (kCe BK123.out 2).trans rfl; have hfz8_0 := bFz BK123.out 0; have hfz8_1 := bFz BK123.out 1; have hfz8_2 := bFz BK123.out 2))
  go_ret
  exact ⟨eX, bX1 GE123.out⟩
 rw [if_pos c2] at H
 obtain ⟨c2b0, c2b1⟩ := bY c2
 clear c2
 replace H := oB H
 obtain ⟨t124, A30, H⟩ := H
 replace H : (some (t124 == 3)) = some r := H
 have A3 := aK A30
 clear A30
 obtain rfl := oI H
 go_enter Tryz.func91, Tryz.ntmps91
 go_wp2_with (first | ((with_reducible refine gate_dst (N := 1) rfl ?_); refine box_event ?hg (N := 1) ?hd (cs := #[.int .i64 a0_0, .int .u8 a0_1, .int .i64 a0_2]) (t := 42) ?hr ?_; (case hd => rfl); (case hg => rfl); (case hr => first | (go_simp; done) | (go_simp; rfl)); intro gb123 hg w4 hbox hb; have n0_ := aK (bSp bX hb); have n1_ := aK (hbox); have n2_ := aK ((by rw [hg]; exact (bSz bX) : w.heap.size ≤ gb123)); have n3_ := aK ((by rw [hg]; exact (bSz bX) : w.heap.size ≤ gb123)); clear HB; have HB := n0_; have BK123 := n1_; have GW123 := n2_; have GE123 := n3_; clear n0_ n1_ n2_ n3_; clear hb hbox hg; have hcz5_0 : w4.cell? ⟨gb123, 0, none⟩ = some (.int .i64 a0_0) := (kCe BK123.out 0).trans rfl; have hcz5_1 : w4.cell? ⟨gb123, 1, none⟩ = some (.int .u8 a0_1) := (kCe BK123.out 1).trans rfl; have hcz5_2 : w4.cell? ⟨gb123, 2, none⟩ = some (.int .i64 a0_2) := (kCe BK123.out 2).trans rfl; have hfz5_0 := bFz BK123.out 0; have hfz5_1 := bFz BK123.out 1; have hfz5_2 := bFz BK123.out 2) | (go_at_call 62; (with_reducible refine (chars_Class.calls a0_1 t124 _ A3.out).mono ?_); rintro e w6 ⟨rfl, hb⟩; replace BK123 := aK (kBe (g := gb123) (o := .cells #[.int .i64 a0_0, .int .u8 a0_1, .int .i64 a0_2] 42 (0, 0)) (kX BK123.out) hb); replace HB := aK (bSp (bX1 GE123.out) hb); clear hb))
 go_ret
 exact ⟨eX, bX1 GE123.out⟩
def chars_Letter.f (a0 : Int) : Option (Bool) := (chars_Class.f a0).bind fun t125 => (if t125 = 1 then (some true) else (some (t125 == 2)))
theorem chars_Letter.calls (a0 : Int) (r : Bool) (w : World) (h : chars_Letter.f a0 = some r) :
  Calls Tryz.prog 89 #[.int .u8 a0] w fun e w' => e = .returned (.bool r) ∧ Below w.heap.size w w' := by
 have HB := aK (Below.refl w.heap.size w)
 have H : ((chars_Class.f a0).bind fun t125 => (if t125 = 1 then (some true) else (some (t125 == 2)))) = some r := h
 clear h
 obtain ⟨t125, A2, H⟩ := oC H
 try dsimp only at H
 by_cases c3 : t125 = 1
 rotate_left
 ·
  rw [if_neg c3] at H; obtain ⟨c3b0, c3b1⟩ := bN c3; obtain rfl := oI H
  go_enter Tryz.func89, Tryz.ntmps89
  go_wp2_with (first | ((with_reducible refine gate_callee (f := 62) rfl ?_); refine gO 5 Tryz.func62 #[.int .u8 a0] ?_; (with_reducible refine (chars_Class.calls a0 t125 _ A2.out).mono ?_); rintro e w5 ⟨rfl, hb⟩; refine ⟨_, rfl, ?_⟩; replace HB := aK (bSp bX hb); clear hb))
  go_ret
  exact ⟨eX, bX⟩
 rw [if_pos c3] at H
 obtain ⟨c3b0, c3b1⟩ := bY c3
 clear c3
 obtain rfl := oI H
 go_enter Tryz.func89, Tryz.ntmps89
 go_wp2_with (first | ((with_reducible refine gate_callee (f := 62) rfl ?_); refine gO 5 Tryz.func62 #[.int .u8 a0] ?_; (with_reducible refine (chars_Class.calls a0 t125 _ A2.out).mono ?_); rintro e w4 ⟨rfl, hb⟩; refine ⟨_, rfl, ?_⟩; replace HB := aK (bSp bX hb); clear hb))
 go_ret
 exact ⟨eX, bX⟩
end Go.Proofs.YtbpbniemjjhecaaGreat.PChk
