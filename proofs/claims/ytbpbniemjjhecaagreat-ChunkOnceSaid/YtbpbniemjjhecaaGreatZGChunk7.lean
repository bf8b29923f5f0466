import Derived.Test.YtbpbniemjjhecaaGreatZGChunk6
namespace Go.Proofs.YtbpbniemjjhecaaGreat.G
set_option linter.unusedVariables false
set_option linter.unusedSimpArgs false
open Go.RowKit Go.Maps Go.Proofs.YtbpbniemjjhecaaGreat.GM Go.Proofs.YtbpbniemjjhecaaGreat.GT Go.Proofs.YtbpbniemjjhecaaGreat.PChk Go.Proofs.YtbpbniemjjhecaaGreat.PureC Go.Proofs.YtbpbniemjjhecaaGreatW.PrintWords Go.Proofs.YtbpbniemjjhecaaGreatW.PrintLast Go.Proofs.YtbpbniemjjhecaaGreatW.PrintMore
theorem str_size (l : List Int) : (strOfNums l).size = l.length := by
 rw [← ByteArray.size_data, ← Array.length_toList, strOfNums_data, List.length_map]
theorem mark_size (x : Tk) : (markF x).size ≤ 2 := by
 unfold markF
 split
 ·
  split
  ·
   rw [str_size]; exact Nat.le_refl _
  ·
   split
   ·
    rw [str_size]; exact Nat.le_refl _
   ·
    exact Nat.zero_le _
 ·
  exact Nat.zero_le _
theorem lets_step {toks : List Tk} {i : Nat} {y : Tk} (hy : toks[i]? = some y) : lets (toks.drop i) = if letB y = true then lets (toks.drop (i + 1)) + 1 else 0 := by
 have hlt := (List.getElem?_eq_some_iff.1 hy).1
 have e : toks.drop i = y :: toks.drop (i + 1) := by
  rw [List.drop_eq_getElem_cons hlt]
  congr 1
  exact (List.getElem?_eq_some_iff.1 hy).2
 unfold lets
 rw [e, List.takeWhile_cons]
 split <;> rfl
theorem lets_pos {toks : List Tk} {i : Nat} {y : Tk} (hy : toks[i]? = some y) (h : letB y = true) : 1 ≤ lets (toks.drop i) := by
 rw [lets_step hy, if_pos h]
 omega
def tokV (x : Tk) : Array Value := #[.int .i64 x.f0, .int .u8 x.f1, .int .i64 x.f2]
set_option maxHeartbeats 20000000 in
set_option maxRecDepth 100000 in
theorem spell_walk (w0 w : World) (g : Nat) (t : Tr) (l : List Rl) (out tot : List Pc) (toks : List Tk) (At : Option Addr) (ct : Nat) (K : Nat) (h : WRx (fun _ => False) w0 w g t l out) (ht : t.x = some (some l)) (hl : l ≠ []) (hsh : ∀ x ∈ l, x.f1.size ≤ 50) (hTk : Kd.C k42 w0 At toks.length toks) (hct : toks.length ≤ ct) (hlen : toks.length ≤ 1000) (hokt : ∀ x ∈ toks, okTk x)
  (hok : ∀ i, i < toks.length → RunOk l (runT toks i (lets (toks.drop i)))) (hK : toks.length < K) (htot : out ++ spellGo l toks K 0 = tot) (hn : tot.length ≤ 100000) :
  Calls Tryz.prog 51 #[.pointer (some ⟨g, 0, none⟩), .slice At toks.length ct] w fun e w' => e = .returned (.tuple #[]) ∧ WRx (fun _ => False) w0 w' g t l tot := by
 have hu := Tryz.underlying42
 have HW := Lib.hid h
 have HL := Lib.hid hl
 have HT := Lib.hid ht
 have HOK := Lib.hid hok
 have HK := Lib.hid hK
 have HTOT := Lib.hid htot
 have HSH := Lib.hid hsh
 have HN := Lib.hid hn
 have HTK := Lib.hid hTk
 have HOT := Lib.hid hokt
 clear h hl ht hok hK htot hsh hn hTk hokt
 go_enter Tryz.func51, Tryz.ntmps51
 go_wp2
 go_loopw [4] (fun o wr => ∃ (a k : Nat) (out' : List Pc), o = .int .i64 (a : Int) ∧ a ≤ toks.length ∧ Hid (toks.length - a < k) ∧ Hid (out' ++ spellGo l toks k a = tot) ∧ Hid (WRx (fun _ => False) w0 wr g t l out')) (fun o _ => toks.length - (intOf o).toNat)
 case atStart => exact ⟨0, K, out, rfl, Nat.zero_le _, Lib.hid (by have h_ := HK.out; omega), HTOT, HW⟩
 case round =>
  clear HW HTOT HK
  obtain ⟨a, k, out', rfl, ha, HK, HTO, HW⟩ := hrel
  by_cases hlt : a < toks.length
  ·
   obtain ⟨k, rfl⟩ : ∃ m, k = m + 1 := ⟨k - 1, by have h_ := HK.out; omega⟩
   have HLEN := Lib.hid (show out'.length ≤ 100000 from by have h1_ := HN.out; have h2_ := congrArg List.length HTO.out; rw [List.length_append] at h2_; omega)
   obtain ⟨x, hx⟩ : ∃ x, toks[a]? = some x := ⟨toks[a], List.getElem?_eq_getElem hlt⟩
   have HX := Lib.hid hx
   have hox := HOT.out x (List.mem_of_getElem? hx)
   obtain ⟨bh, hbh⟩ : ∃ bh, behB toks a = bh := ⟨_, rfl⟩
   have HBH := Lib.hid hbh
   have HOX := Lib.hid hox
   have hbw : Below w0.heap.size w0 wr := by obtain ⟨A, c, vo, hW⟩ := HW.out; exact hW.below
   have HBW := Lib.hid hbw
   have q1 : (a : Int) < (toks.length : Int) := by omega
   have q2 : a ≤ ct := by omega
   have q3 : (a : Int) ≤ (ct : Int) := by omega
   clear hx hbh hox hbw
   go_upto_region 2 with (fail)
   go_cut [5, 6] (fun v5 v6 wc => ∃ g5 : Nat, v5 = .pointer (some ⟨g5, 0, none⟩) ∧ v6 = .bool bh ∧ Hid (wc.heap[g5]? = some (.cells (tokV x) 42 (0, 0))) ∧ Hid (Below wr.heap.size wr wc) ∧ Hid (wr.heap.size ≤ g5))
   case first =>
    obtain ⟨ad, e_, g0, g1, g2⟩ := at_T42 (Kd.C_below HTK.out HBW.out) (a : Int) (by omega) (by omega)
    rw [show rd_T42 toks (a : Int) = x from by simp [rd_T42, HX.out]] at g0 g1 g2
    simp only [Int.toNat_natCast] at g0 g1 g2
    cases e_
    by_cases h0 : a = 0
    ·
     have hb0 : bh = false := by rw [← HBH.out, h0]; rfl
     subst hb0
     have hd1 : decide ((0 : Int) < (a : Int)) = false := decide_eq_false (by omega)
     have hd2 : decide (0 < a) = false := decide_eq_false (by omega)
     have H0 := Lib.hid h0
     clear h0
     refine start_ (n := 17) (S := fun w' => Below wr.heap.size wr w') (ds := []) (bl 17 0) (by kernel_rfl) rfl (by kernel_rfl) (below_drew (Below.refl _ _)) (fun hHeld => ?_)
     refine pK 0 12 (bl 17 1) ?_
     refine pK 1 13 (bl 17 3) ?_
     refine pK 2 14 (bl 17 7) ?_
     refine tK 3 15 (bl 17 15) hHeld ?_ (hv := by intro w' hS; have c0 := (hS.cell (World.block_lt_of_cell? _ _ g0)).trans g0; have c1 := (hS.cell (World.block_lt_of_cell? _ _ g1)).trans g1; have c2 := (hS.cell (World.block_lt_of_cell? _ _ g2)).trans g2; go_simp; with_reducible rfl)
     refine pK 4 16 (bl 17 31) ?_
     refine pK 5 17 (bl 17 63) ?_
     refine pK 6 18 (bl 17 127) ?_
     refine oK 7 19 (bl 17 255) ?_
     refine oK 8 20 (bl 17 511) ?_
     refine oK 9 21 (bl 17 1023) ?_
     refine oK 10 22 (bl 17 2047) ?_
     refine uK 11 23 (bl 17 4095) hHeld ?_
     refine two_ (i := 12) (j := 14) (Ni := some 24) (Nj := some 5) (bl 17 8191) (bl 17 20479) rfl rfl rfl rfl (by kernel_rfl) (by simp) (by simp) (fun K hK => ?_) (fun K hK => ?_)
     ·
      skip
      refine off_ (by rfl) ?_
      refine hK.out _ _ hHeld (fun hHeld2 => ?_)
      clear hK K
      refine norm_ (a' := ?_) ?_ ?_
      rotate_left
      ·
       show Act.put _ (some 24) _ = _
       simp only [Act.put, qSa, qS0, qS1, i64_w, i32_w]
       rfl
      refine pK 13 25 (bl 17 16383) ?_
      refine one_ (i := 14) (N := some 5) (bl 17 32767) rfl rfl (by kernel_rfl) (by simp) (fun K hK => ?_)
      refine value_ (by rfl) rfl (by go_simp; exact ⟨rfl, rfl⟩) ?_
      refine hK.out _ _ (by repeat (first | (with_reducible first | exact hHeld2 | exact Below.refl _ _ | apply bAl | apply pbD | apply bD1) | exact hHeld2)) (fun hHeld3 => ?_)
      clear hK K
      refine norm_ (a' := ?_) ?_ ?_
      rotate_left
      ·
       show Act.put _ (some 5) _ = _
       simp only [Act.put, qSa, qS0, qS1, i64_w, i32_w]
       rfl
      refine one_ (i := 15) (N := none) (bl 17 65535) rfl rfl (by kernel_rfl) (by simp) (fun K hK => ?_)
      refine skip_ (by rfl) rfl (by go_simp; with_reducible rfl) ?_
      refine hK.out _ _ (by repeat (first | (with_reducible first | exact Below.refl _ _ | exact Below.refl _ _ | apply bAl | apply pbD | apply bD1) | exact Below.refl _ _)) (fun hHeld9 => ?_)
      clear hK K
      refine pK 16 6 (bl 17 131071) ?_
      refine done_ (by kernel_rfl) ?_
      go_wp2
      go_meet
      case rel => exact ⟨_, rfl, rfl, Lib.hid (by first | exact heap_alloc_new _ _ | (simp [tokV, World.alloc]; done)), Lib.hid (by repeat (first | (with_reducible first | exact Below.refl _ _ | exact Below.refl _ _ | apply bAl | apply pbD | apply bD1) | exact Below.refl _ _)), Lib.hid (by first | exact Nat.le_refl _ | exact hHeld2.size)⟩
     ·
      skip
      refine value_ (by rfl) rfl (by go_simp; exact ⟨rfl, rfl⟩) ?_
      refine hK.out _ _ (by repeat (first | (with_reducible first | exact hHeld | exact Below.refl _ _ | apply bAl | apply pbD | apply bD1) | exact hHeld)) (fun hHeld1 => ?_)
      clear hK K
      refine norm_ (a' := ?_) ?_ ?_
      rotate_left
      ·
       show Act.put _ (some 5) _ = _
       simp only [Act.put, qSa, qS0, qS1, i64_w, i32_w]
       rfl
      refine one_ (i := 12) (N := some 24) (bl 17 24575) rfl rfl (by kernel_rfl) (by simp) (fun K hK => ?_)
      refine off_ (by rfl) ?_
      refine hK.out _ _ hHeld1 (fun hHeld2 => ?_)
      clear hK K
      refine norm_ (a' := ?_) ?_ ?_
      rotate_left
      ·
       show Act.put _ (some 24) _ = _
       simp only [Act.put, qSa, qS0, qS1, i64_w, i32_w]
       rfl
      refine pK 13 25 (bl 17 32767) ?_
      refine one_ (i := 15) (N := none) (bl 17 65535) rfl rfl (by kernel_rfl) (by simp) (fun K hK => ?_)
      refine skip_ (by rfl) rfl (by go_simp; with_reducible rfl) ?_
      refine hK.out _ _ (by repeat (first | (with_reducible first | exact Below.refl _ _ | exact Below.refl _ _ | apply bAl | apply pbD | apply bD1) | exact Below.refl _ _)) (fun hHeld9 => ?_)
      clear hK K
      refine pK 16 6 (bl 17 131071) ?_
      refine done_ (by kernel_rfl) ?_
      go_wp2
      go_meet
      case rel => exact ⟨_, rfl, rfl, Lib.hid (by first | exact heap_alloc_new _ _ | (simp [tokV, World.alloc]; done)), Lib.hid (by repeat (first | (with_reducible first | exact Below.refl _ _ | exact Below.refl _ _ | apply bAl | apply pbD | apply bD1) | exact Below.refl _ _)), Lib.hid (by first | exact Nat.le_refl _ | exact hHeld2.size)⟩
    ·
     have hp0 : (0 : Int) ≤ (a : Int) - 1 := by omega
     obtain ⟨y, hy⟩ : ∃ y, toks[a - 1]? = some y := ⟨toks[a - 1]'(by omega), List.getElem?_eq_getElem _⟩
     have hby : digB y = bh := by rw [← HBH.out]; unfold behB; rw [hy, decide_eq_true (by omega : 0 < a)]; rfl
     have hdg := fun W => chunk_digit.calls y.f0 y.f1 y.f2 bh W (by rw [digit_f y (HOT.out y (List.mem_of_getElem? hy)), hby])
     obtain ⟨ad', e_', k0, k1, k2⟩ := at_T42 (Kd.C_below HTK.out HBW.out) ((a - 1 : Nat) : Int) (by omega) (by omega)
     cases e_'
     rw [show rd_T42 toks ((a - 1 : Nat) : Int) = y from by simp [rd_T42, hy]] at k0 k1 k2
     simp only [Int.toNat_natCast] at k0 k1 k2
     have hd1 : decide ((0 : Int) < (a : Int)) = true := decide_eq_true (by omega)
     have hd2 : decide (0 < a) = true := decide_eq_true (by omega)
     have hp1 : (1 : Int) ≤ (a : Int) := by omega
     have hp2 : (a : Int) - 1 < (toks.length : Int) := by omega
     have hwr : IntKind.i64.wrap ((a : Int) - 1) = (a : Int) - 1 := IntWalk.i64_in _ (by omega)
     have H0 := Lib.hid h0
     clear h0 hy hby
     refine start_ (n := 17) (S := fun w' => Below wr.heap.size wr w') (ds := []) (bl 17 0) (by kernel_rfl) rfl (by kernel_rfl) (below_drew (Below.refl _ _)) (fun hHeld => ?_)
     refine pK 0 12 (bl 17 1) ?_
     refine pK 1 13 (bl 17 3) ?_
     refine pK 2 14 (bl 17 7) ?_
     refine tK 3 15 (bl 17 15) hHeld ?_ (hv := by intro w' hS; have c0 := (hS.cell (World.block_lt_of_cell? _ _ g0)).trans g0; have c1 := (hS.cell (World.block_lt_of_cell? _ _ g1)).trans g1; have c2 := (hS.cell (World.block_lt_of_cell? _ _ g2)).trans g2; go_simp; with_reducible rfl)
     refine pK 4 16 (bl 17 31) ?_
     refine pK 5 17 (bl 17 63) ?_
     refine pK 6 18 (bl 17 127) ?_
     refine pK 7 19 (bl 17 255) ?_
     refine pK 8 20 (bl 17 511) ?_
     refine pK 9 21 (bl 17 1023) ?_
     refine pK 10 22 (bl 17 2047) ?_
     refine tK 11 23 (bl 17 4095) hHeld ?_ (hv := by intro w' hS; have c0 := (hS.cell (World.block_lt_of_cell? _ _ k0)).trans k0; have c1 := (hS.cell (World.block_lt_of_cell? _ _ k1)).trans k1; have c2 := (hS.cell (World.block_lt_of_cell? _ _ k2)).trans k2; go_simp; with_reducible rfl)
     refine two_ (i := 12) (j := 14) (Ni := some 24) (Nj := some 5) (bl 17 8191) (bl 17 20479) rfl rfl rfl rfl (by kernel_rfl) (by simp) (by simp) (fun K hK => ?_) (fun K hK => ?_)
     ·
      skip
      refine goes_ Tryz.func91 (by kernel_rfl) rfl #[.agg #[.int .i64 y.f0, .int .u8 y.f1, .int .i64 y.f2]] (by rfl) rfl rfl (by (try simp only [List.map_toArray, List.map_cons, List.map_nil]); first | done | rfl) ?_
      refine (hdg _).mono ?_
      rintro e w4 ⟨rfl, b4⟩
      refine ⟨_, rfl, ?_⟩
      refine hK.out _ _ (bSp hHeld b4) (fun hHeld2 => ?_)
      have HB4 := Lib.hid b4
      clear hK K b4
      refine norm_ (a' := ?_) ?_ ?_
      rotate_left
      ·
       show Act.put _ (some 24) _ = _
       simp only [Act.put, qSa, qS0, qS1, i64_w, i32_w]
       rfl
      refine pK 13 25 (bl 17 16383) ?_
      refine one_ (i := 14) (N := some 5) (bl 17 32767) rfl rfl (by kernel_rfl) (by simp) (fun K hK => ?_)
      refine value_ (by rfl) rfl (by go_simp; exact ⟨rfl, rfl⟩) ?_
      refine hK.out _ _ (by repeat (first | (with_reducible first | exact hHeld2 | exact Below.refl _ _ | apply bAl | apply pbD | apply bD1) | exact hHeld2)) (fun hHeld3 => ?_)
      clear hK K
      refine norm_ (a' := ?_) ?_ ?_
      rotate_left
      ·
       show Act.put _ (some 5) _ = _
       simp only [Act.put, qSa, qS0, qS1, i64_w, i32_w]
       rfl
      refine one_ (i := 15) (N := none) (bl 17 65535) rfl rfl (by kernel_rfl) (by simp) (fun K hK => ?_)
      refine skip_ (by rfl) rfl (by go_simp; with_reducible rfl) ?_
      refine hK.out _ _ (by repeat (first | (with_reducible first | exact hHeld2 | apply bAl | apply pbD | apply bD1) | exact hHeld2)) (fun hHeld9 => ?_)
      clear hK K
      refine pK 16 6 (bl 17 131071) ?_
      refine done_ (by kernel_rfl) ?_
      go_wp2
      go_meet
      case rel => exact ⟨_, rfl, rfl, Lib.hid (by first | exact heap_alloc_new _ _ | (simp [tokV, World.alloc]; done)), Lib.hid (by repeat (first | (with_reducible first | exact hHeld2 | apply bAl | apply pbD | apply bD1) | exact hHeld2)), Lib.hid (by first | exact Nat.le_refl _ | exact hHeld2.size)⟩
     ·
      skip
      refine value_ (by rfl) rfl (by go_simp; exact ⟨rfl, rfl⟩) ?_
      refine hK.out _ _ (by repeat (first | (with_reducible first | exact hHeld | exact Below.refl _ _ | apply bAl | apply pbD | apply bD1) | exact hHeld)) (fun hHeld1 => ?_)
      clear hK K
      refine norm_ (a' := ?_) ?_ ?_
      rotate_left
      ·
       show Act.put _ (some 5) _ = _
       simp only [Act.put, qSa, qS0, qS1, i64_w, i32_w]
       rfl
      refine one_ (i := 12) (N := some 24) (bl 17 24575) rfl rfl (by kernel_rfl) (by simp) (fun K hK => ?_)
      refine goes_ Tryz.func91 (by kernel_rfl) rfl #[.agg #[.int .i64 y.f0, .int .u8 y.f1, .int .i64 y.f2]] (by rfl) rfl rfl (by (try simp only [List.map_toArray, List.map_cons, List.map_nil]); first | done | rfl) ?_
      refine (hdg _).mono ?_
      rintro e w4 ⟨rfl, b4⟩
      refine ⟨_, rfl, ?_⟩
      refine hK.out _ _ (bSp hHeld1 b4) (fun hHeld2 => ?_)
      have HB4 := Lib.hid b4
      clear hK K b4
      refine norm_ (a' := ?_) ?_ ?_
      rotate_left
      ·
       show Act.put _ (some 24) _ = _
       simp only [Act.put, qSa, qS0, qS1, i64_w, i32_w]
       rfl
      refine pK 13 25 (bl 17 32767) ?_
      have HZ := Lib.hid (kBe (w1 := w4) (g := wr.heap.size) (o := .cells #[.int .i64 0, .int .u8 0, .int .i64 0] 42 (0, 0)) (by first | exact heap_alloc_new _ _ | (simp [World.alloc]; done)) HB4.out)
      have z0 : w4.cell? ⟨wr.heap.size, 0, none⟩ = some (.int .i64 0) := (kCe HZ.out 0).trans rfl
      have z1 : w4.cell? ⟨wr.heap.size, 1, none⟩ = some (.int .u8 0) := (kCe HZ.out 1).trans rfl
      have z2 : w4.cell? ⟨wr.heap.size, 2, none⟩ = some (.int .i64 0) := (kCe HZ.out 2).trans rfl
      have f0 := bFz HZ.out 0
      have f1 := bFz HZ.out 1
      have f2 := bFz HZ.out 2
      refine one_ (i := 15) (N := none) (bl 17 65535) rfl rfl (by kernel_rfl) (by simp) (fun K hK => ?_)
      refine skip_ (by rfl) rfl (by go_simp; with_reducible rfl) ?_
      refine hK.out _ _ (((hHeld2.setCell (p := ⟨wr.heap.size, 0, none⟩) (Nat.le_refl _) _).setCell (p := ⟨wr.heap.size, 1, none⟩) (Nat.le_refl _) _).setCell (p := ⟨wr.heap.size, 2, none⟩) (Nat.le_refl _) _) (fun hHeld9 => ?_)
      clear hK K
      refine pK 16 6 (bl 17 131071) ?_
      refine done_ (by kernel_rfl) ?_
      go_wp2
      go_meet
      case rel => exact ⟨_, rfl, rfl, Lib.hid (blk_put (blk_put (blk_put HZ.out 0 _ rfl) 1 _ rfl) 2 _ rfl), Lib.hid (((hHeld2.setCell (p := ⟨wr.heap.size, 0, none⟩) (Nat.le_refl _) _).setCell (p := ⟨wr.heap.size, 1, none⟩) (Nat.le_refl _) _).setCell (p := ⟨wr.heap.size, 2, none⟩) (Nat.le_refl _) _), Lib.hid (by first | exact Nat.le_refl _ | exact hHeld2.size)⟩
   case rest =>
    obtain ⟨g5, rfl, rfl, HX5, HB5, HG0⟩ := hcut
    have HG5 : Hid (g5 ≠ g) := Lib.hid (by obtain ⟨A, c, vo, hW⟩ := HW.out; have h1_ := blk_lt hW.blk; have h2_ := HG0.out; omega)
    have HY5 := Lib.hid (HW.out.imp fun A h => h.imp fun c h => h.imp fun vo h => (h.more (Y := fun q => q = g5) (fun q hq e => by have h_ := HG0.out; omega)).on HB5.out)
    have HW5 := Lib.hid (HW.out.imp fun A h => h.imp fun c h => h.imp fun vo h => h.on HB5.out)
    have hle := fun W => chunk_letter.calls x.f0 x.f1 x.f2 (letB x) W (letter_f x HOX.out)
    have hdi := fun W => chunk_digit.calls x.f0 x.f1 x.f2 (digB x) W (digit_f x HOX.out)
    have HSP := Lib.hid (show spellGo l toks (k + 1) a = if letB x = true then
      (if bh = true then [(⟨ruleI l 8 letName, (a : Int), 0⟩ : Pc)] else []) ++ (runGo l (runT toks a (lets (toks.drop a))) (a : Int) ((runT toks a (lets (toks.drop a))).size + 1) 0 ++ spellGo l toks k (a + lets (toks.drop a)))
     else if digB x = true then
      (if bh = true then [] else [(⟨ruleI l 8 numName, (a : Int), 0⟩ : Pc)]) ++ ((⟨ruleI l 7 (oneS x.f1), (a : Int), 1⟩ : Pc) :: spellGo l toks k (a + 1))
     else if x.f0 = 1 then (⟨ruleI l 6 (oneS x.f1), (a : Int), 1⟩ : Pc) :: spellGo l toks k (a + 1)
     else (⟨ruleI l 8 (markF x), (a : Int), 1⟩ : Pc) :: spellGo l toks k (a + 1) from by
      conv => lhs; unfold spellGo
      rw [HX.out, HBH.out])
    have HS1 := Lib.hid (show (oneS x.f1).size = 1 from by unfold oneS; rw [← ByteArray.size_data, ← Array.length_toList, strOfNums_data]; rfl)
    clear HW
    have z0 : wc.cell? ⟨g5, 0, none⟩ = some (.int .i64 x.f0) := (kCe HX5.out 0).trans rfl
    have z1 : wc.cell? ⟨g5, 1, none⟩ = some (.int .u8 x.f1) := (kCe HX5.out 1).trans rfl
    have z2 : wc.cell? ⟨g5, 2, none⟩ = some (.int .i64 x.f2) := (kCe HX5.out 2).trans rfl
    cases hlb : letB x with
    | true =>
     rw [hlb] at hle
     rw [hlb, if_pos rfl] at HSP
     have HLB := Lib.hid hlb
     obtain ⟨ad, e_, _⟩ := at_T42 HTK.out (a : Int) (by omega) (by omega)
     cases e_
     clear hlb hdi HY5 HBH
     go_wp2_with fail
     go_at_call 45
     refine (hle _).mono ?_
     rintro e w1 ⟨rfl, b1⟩
     have HW1 := Lib.hid (HW5.out.imp fun A h => h.imp fun c h => h.imp fun vo h => h.on b1)
     clear b1 hle z0 z1 z2
     go_wp2
     go_loopw [7] (fun v wr2 => ∃ b : Nat, v = .int .i64 (b : Int) ∧ a ≤ b ∧ b ≤ toks.length ∧ Hid ((b - a) + lets (toks.drop b) = lets (toks.drop a)) ∧ Hid (WRx (fun _ => False) w0 wr2 g t l out')) (fun v _ => toks.length - (intOf v).toNat)
     case atStart => exact ⟨a, rfl, Nat.le_refl _, ha, Lib.hid (by rw [Nat.sub_self, Nat.zero_add]), HW1⟩
     case round =>
      clear HW1 HW5 HX5 HB5
      obtain ⟨b, rfl, hab, hml, HMM, HW⟩ := hrel
      by_cases hlm : b < toks.length
      ·
       obtain ⟨y, hy⟩ : ∃ y, toks[b]? = some y := ⟨toks[b], List.getElem?_eq_getElem hlm⟩
       have hoy := HOT.out y (List.mem_of_getElem? hy)
       have hly := fun W => chunk_letter.calls y.f0 y.f1 y.f2 (letB y) W (letter_f y hoy)
       have hst := lets_step hy
       have hbw2 : Kd.C k42 wr (some ad) toks.length toks := by obtain ⟨A, c, vo, hW⟩ := HW.out; exact Kd.C_below HTK.out hW.below
       obtain ⟨ad', e_', k0, k1, k2⟩ := at_T42 hbw2 (b : Int) (by omega) (by omega)
       rw [show rd_T42 toks (b : Int) = y from by unfold rd_T42; rw [Int.toNat_natCast, List.getD, hy]; rfl] at k0 k1 k2
       simp only [Int.toNat_natCast] at k0 k1 k2
       cases e_'
       have p1 : (b : Int) < (toks.length : Int) := by omega
       have p2 : b ≤ ct := by omega
       have p3 : (b : Int) ≤ (ct : Int) := by omega
       clear hy hoy hbw2
       cases hlb2 : letB y with
       | true =>
        rw [hlb2, if_pos rfl] at hst
        rw [hlb2] at hly
        have HST := Lib.hid hst
        clear hst hlb2
        go_wp2_with fail
        go_at_call 45
        refine (hly _).mono ?_
        rintro e w2 ⟨rfl, b2⟩
        have HW2 := Lib.hid (HW.out.imp fun A h => h.imp fun c h => h.imp fun vo h => h.on b2)
        clear b2 hly k0 k1 k2
        go_wp2
        go_roundw
        case rel => exact ⟨b + 1, by go_num, by omega, by omega, Lib.hid (by rw [← HMM.out, HST.out]; omega), HW2⟩
        case measure => simp [intOf]; omega
       | false =>
        rw [hlb2, if_neg (by decide)] at hst
        rw [hlb2] at hly
        have HM := Lib.hid (show b - a = lets (toks.drop a) from by have h_ := HMM.out; omega)
        clear hst hlb2
        go_wp2_with fail
        go_at_call 45
        refine (hly _).mono ?_
        rintro e w2 ⟨rfl, b2⟩
        have HW2 := Lib.hid (HW.out.imp fun A h => h.imp fun c h => h.imp fun vo h => h.on b2)
        clear b2 hly k0 k1 k2
        have HM1 := Lib.hid (show 1 ≤ b - a from by rw [HM.out]; exact lets_pos HX.out HLB.out)
        have hma : b ≤ toks.length := by omega
        obtain ⟨i04, hi04, _, hsz4, _⟩ := info_parts info42
        have hcut := cut_mid (P := Tryz.prog) 23 42 .i64 .i64 Tryz.underlying23 hi04 3 hsz4 (some ad) toks.length ct (a : Int) (b : Int) (by omega) (by omega) (by omega) hct
        obtain ⟨y4, hy4⟩ : ∃ y4, y4 = (toks.take (b : Int).toNat).drop (a : Int).toNat := ⟨_, rfl⟩
        obtain ⟨A4, hA4⟩ : ∃ A1, A1 = (if ct = (a : Int).toNat then (some ad) else ((some ad) : Option Addr).map (·.add ((a : Int).toNat * 3))) := ⟨_, rfl⟩
        obtain ⟨c4, hc4⟩ : ∃ c1, c1 = ct - (a : Int).toNat := ⟨_, rfl⟩
        have hl4 : y4.length = (b : Int).toNat - (a : Int).toNat := by rw [hy4, List.length_drop, List.length_take]; omega
        rw [← hl4, ← hA4, ← hc4] at hcut
        have HR4 := Lib.hid (show ∀ W, Kd.C k42 W (some ad) toks.length toks → Kd.C k42 W A4 y4.length y4 from fun W hC => by
         have h_ := Kd.C_mid (lo := (a : Int).toNat) (hi := (b : Int).toNat) (c := ct) hC (by omega) (by omega) hct
         rw [← hy4] at h_
         rw [hA4]
         exact h_)
        have hyt : strOfNums (y4.map (·.f1)) = runT toks a (b - a) := by unfold runT; rw [hy4, Int.toNat_natCast, Int.toNat_natCast, List.drop_take]
        have htx := fun W (hC : Kd.C k42 W A4 y4.length y4) => chunk_text.calls (toks.length + 1) A4 c4 y4 (runT toks a (b - a)) W hC (by omega) (by rw [text_f y4 (by omega) _ (by omega), hyt])
        have HRS := Lib.hid (show (runT toks a (b - a)).size ≤ 1000 from by unfold runT; rw [str_size, List.length_map, List.length_take, List.length_drop]; omega)
        clear hy4 hA4 hc4 hl4 hyt hi04 hsz4
        have q1 : (a : Int) ≤ (b : Int) := by omega
        have q2 : (b : Int) ≤ (toks.length : Int) := by omega
        cases bh with
        | true =>
         have hpn := fun W (hW : WRx (fun _ => False) w0 W g t l out') => put_walk (fun _ => False) w0 W g t l out' 8 letName (a : Int) 0 hW (fun _ h => h.elim) HL.out (by have h_ := HLEN.out; omega) (by omega) (by decide)
         rw [show (findO t.x 8 letName).getD 0 = ruleI l 8 letName from by unfold ruleI; rw [HT.out]] at hpn
         go_wp2_with fail
         go_at_call 50
         refine (hpn _ HW2.out).mono ?_
         rintro e wp ⟨rfl, hWp⟩
         have HWp := Lib.hid hWp
         clear hWp hpn
         have HTL := Lib.hid (show ((out' ++ [(⟨ruleI l 8 letName, (a : Int), 0⟩ : Pc)]) ++ runGo l (runT toks a (b - a)) (a : Int) ((runT toks a (b - a)).size + 1) 0).length ≤ 100000 from by have h1_ := HN.out; have h2_ := congrArg List.length (HTO.out.trans rfl); rw [HSP.out, ← HM.out] at h2_; simp only [List.length_append, List.length_cons, List.length_nil, if_pos, reduceIte, Bool.false_eq_true] at h2_ ⊢; omega)
         have hrw := fun W (hW : WRx (fun _ => False) w0 W g t l (out' ++ [(⟨ruleI l 8 letName, (a : Int), 0⟩ : Pc)])) => run_walk w0 W g t l (out' ++ [(⟨ruleI l 8 letName, (a : Int), 0⟩ : Pc)]) ((out' ++ [(⟨ruleI l 8 letName, (a : Int), 0⟩ : Pc)]) ++ runGo l (runT toks a (b - a)) (a : Int) ((runT toks a (b - a)).size + 1) 0) (runT toks a (b - a)) (a : Int) ((runT toks a (b - a)).size + 1) hW HT.out HL.out HSH.out HRS.out (by omega) (by have h_ := HOK.out a hlt; rw [← HM.out] at h_; exact h_) (by omega) rfl HTL.out
         go_wp2_with fail
         go_at_call 46
         refine (htx _ (by obtain ⟨A, c, vo, hW⟩ := HWp.out; exact HR4.out _ (Kd.C_below HTK.out hW.below))).mono ?_
         rintro e wt ⟨rfl, bt⟩
         have HWt := Lib.hid (HWp.out.imp fun A h => h.imp fun c h => h.imp fun vo h => h.on bt)
         clear bt htx
         go_wp2_with fail
         go_at_call 92
         refine (hrw _ HWt.out).mono ?_
         rintro e wq ⟨rfl, hWq⟩
         have HWq := Lib.hid hWq
         clear hWq hrw
         go_wp2
         go_roundw
         case rel => exact ⟨b, k, _, rfl, by omega, Lib.hid (by have h_ := HK.out; have h2_ := HM1.out; omega), Lib.hid (by rw [← HTO.out, HSP.out, ← HM.out, show a + (b - a) = b from by omega]; simp), HWq⟩
         case measure => have h2_ := HM1.out; simp [intOf]; omega
        | false =>
         have HTL := Lib.hid (show ((out') ++ runGo l (runT toks a (b - a)) (a : Int) ((runT toks a (b - a)).size + 1) 0).length ≤ 100000 from by have h1_ := HN.out; have h2_ := congrArg List.length (HTO.out.trans rfl); rw [HSP.out, ← HM.out] at h2_; simp only [List.length_append, List.length_cons, List.length_nil, if_pos, reduceIte, Bool.false_eq_true] at h2_ ⊢; omega)
         have hrw := fun W (hW : WRx (fun _ => False) w0 W g t l (out')) => run_walk w0 W g t l (out') ((out') ++ runGo l (runT toks a (b - a)) (a : Int) ((runT toks a (b - a)).size + 1) 0) (runT toks a (b - a)) (a : Int) ((runT toks a (b - a)).size + 1) hW HT.out HL.out HSH.out HRS.out (by omega) (by have h_ := HOK.out a hlt; rw [← HM.out] at h_; exact h_) (by omega) rfl HTL.out
         go_wp2_with fail
         go_at_call 46
         refine (htx _ (by obtain ⟨A, c, vo, hW⟩ := HW2.out; exact HR4.out _ (Kd.C_below HTK.out hW.below))).mono ?_
         rintro e wt ⟨rfl, bt⟩
         have HWt := Lib.hid (HW2.out.imp fun A h => h.imp fun c h => h.imp fun vo h => h.on bt)
         clear bt htx
         go_wp2_with fail
         go_at_call 92
         refine (hrw _ HWt.out).mono ?_
         rintro e wq ⟨rfl, hWq⟩
         have HWq := Lib.hid hWq
         clear hWq hrw
         go_wp2
         go_roundw
         case rel => exact ⟨b, k, _, rfl, by omega, Lib.hid (by have h_ := HK.out; have h2_ := HM1.out; omega), Lib.hid (by rw [← HTO.out, HSP.out, ← HM.out, show a + (b - a) = b from by omega]; simp), HWq⟩
         case measure => have h2_ := HM1.out; simp [intOf]; omega
      ·
       have HM := Lib.hid (show b - a = lets (toks.drop a) from by have h_ := HMM.out; rw [show toks.drop b = [] from List.drop_of_length_le (by omega)] at h_; simpa [lets] using h_)
       have hlm2 : ¬ (b : Int) < (toks.length : Int) := by omega
       have HM1 := Lib.hid (show 1 ≤ b - a from by rw [HM.out]; exact lets_pos HX.out HLB.out)
       have hma : b ≤ toks.length := by omega
       obtain ⟨i04, hi04, _, hsz4, _⟩ := info_parts info42
       have hcut := cut_mid (P := Tryz.prog) 23 42 .i64 .i64 Tryz.underlying23 hi04 3 hsz4 (some ad) toks.length ct (a : Int) (b : Int) (by omega) (by omega) (by omega) hct
       obtain ⟨y4, hy4⟩ : ∃ y4, y4 = (toks.take (b : Int).toNat).drop (a : Int).toNat := ⟨_, rfl⟩
       obtain ⟨A4, hA4⟩ : ∃ A1, A1 = (if ct = (a : Int).toNat then (some ad) else ((some ad) : Option Addr).map (·.add ((a : Int).toNat * 3))) := ⟨_, rfl⟩
       obtain ⟨c4, hc4⟩ : ∃ c1, c1 = ct - (a : Int).toNat := ⟨_, rfl⟩
       have hl4 : y4.length = (b : Int).toNat - (a : Int).toNat := by rw [hy4, List.length_drop, List.length_take]; omega
       rw [← hl4, ← hA4, ← hc4] at hcut
       have HR4 := Lib.hid (show ∀ W, Kd.C k42 W (some ad) toks.length toks → Kd.C k42 W A4 y4.length y4 from fun W hC => by
        have h_ := Kd.C_mid (lo := (a : Int).toNat) (hi := (b : Int).toNat) (c := ct) hC (by omega) (by omega) hct
        rw [← hy4] at h_
        rw [hA4]
        exact h_)
       have hyt : strOfNums (y4.map (·.f1)) = runT toks a (b - a) := by unfold runT; rw [hy4, Int.toNat_natCast, Int.toNat_natCast, List.drop_take]
       have htx := fun W (hC : Kd.C k42 W A4 y4.length y4) => chunk_text.calls (toks.length + 1) A4 c4 y4 (runT toks a (b - a)) W hC (by omega) (by rw [text_f y4 (by omega) _ (by omega), hyt])
       have HRS := Lib.hid (show (runT toks a (b - a)).size ≤ 1000 from by unfold runT; rw [str_size, List.length_map, List.length_take, List.length_drop]; omega)
       clear hy4 hA4 hc4 hl4 hyt hi04 hsz4
       have q1 : (a : Int) ≤ (b : Int) := by omega
       have q2 : (b : Int) ≤ (toks.length : Int) := by omega
       cases bh with
       | true =>
        have hpn := fun W (hW : WRx (fun _ => False) w0 W g t l out') => put_walk (fun _ => False) w0 W g t l out' 8 letName (a : Int) 0 hW (fun _ h => h.elim) HL.out (by have h_ := HLEN.out; omega) (by omega) (by decide)
        rw [show (findO t.x 8 letName).getD 0 = ruleI l 8 letName from by unfold ruleI; rw [HT.out]] at hpn
        go_wp2_with fail
        go_at_call 50
        refine (hpn _ HW.out).mono ?_
        rintro e wp ⟨rfl, hWp⟩
        have HWp := Lib.hid hWp
        clear hWp hpn
        have HTL := Lib.hid (show ((out' ++ [(⟨ruleI l 8 letName, (a : Int), 0⟩ : Pc)]) ++ runGo l (runT toks a (b - a)) (a : Int) ((runT toks a (b - a)).size + 1) 0).length ≤ 100000 from by have h1_ := HN.out; have h2_ := congrArg List.length (HTO.out.trans rfl); rw [HSP.out, ← HM.out] at h2_; simp only [List.length_append, List.length_cons, List.length_nil, if_pos, reduceIte, Bool.false_eq_true] at h2_ ⊢; omega)
        have hrw := fun W (hW : WRx (fun _ => False) w0 W g t l (out' ++ [(⟨ruleI l 8 letName, (a : Int), 0⟩ : Pc)])) => run_walk w0 W g t l (out' ++ [(⟨ruleI l 8 letName, (a : Int), 0⟩ : Pc)]) ((out' ++ [(⟨ruleI l 8 letName, (a : Int), 0⟩ : Pc)]) ++ runGo l (runT toks a (b - a)) (a : Int) ((runT toks a (b - a)).size + 1) 0) (runT toks a (b - a)) (a : Int) ((runT toks a (b - a)).size + 1) hW HT.out HL.out HSH.out HRS.out (by omega) (by have h_ := HOK.out a hlt; rw [← HM.out] at h_; exact h_) (by omega) rfl HTL.out
        go_wp2_with fail
        go_at_call 46
        refine (htx _ (by obtain ⟨A, c, vo, hW⟩ := HWp.out; exact HR4.out _ (Kd.C_below HTK.out hW.below))).mono ?_
        rintro e wt ⟨rfl, bt⟩
        have HWt := Lib.hid (HWp.out.imp fun A h => h.imp fun c h => h.imp fun vo h => h.on bt)
        clear bt htx
        go_wp2_with fail
        go_at_call 92
        refine (hrw _ HWt.out).mono ?_
        rintro e wq ⟨rfl, hWq⟩
        have HWq := Lib.hid hWq
        clear hWq hrw
        go_wp2
        go_roundw
        case rel => exact ⟨b, k, _, rfl, by omega, Lib.hid (by have h_ := HK.out; have h2_ := HM1.out; omega), Lib.hid (by rw [← HTO.out, HSP.out, ← HM.out, show a + (b - a) = b from by omega]; simp), HWq⟩
        case measure => have h2_ := HM1.out; simp [intOf]; omega
       | false =>
        have HTL := Lib.hid (show ((out') ++ runGo l (runT toks a (b - a)) (a : Int) ((runT toks a (b - a)).size + 1) 0).length ≤ 100000 from by have h1_ := HN.out; have h2_ := congrArg List.length (HTO.out.trans rfl); rw [HSP.out, ← HM.out] at h2_; simp only [List.length_append, List.length_cons, List.length_nil, if_pos, reduceIte, Bool.false_eq_true] at h2_ ⊢; omega)
        have hrw := fun W (hW : WRx (fun _ => False) w0 W g t l (out')) => run_walk w0 W g t l (out') ((out') ++ runGo l (runT toks a (b - a)) (a : Int) ((runT toks a (b - a)).size + 1) 0) (runT toks a (b - a)) (a : Int) ((runT toks a (b - a)).size + 1) hW HT.out HL.out HSH.out HRS.out (by omega) (by have h_ := HOK.out a hlt; rw [← HM.out] at h_; exact h_) (by omega) rfl HTL.out
        go_wp2_with fail
        go_at_call 46
        refine (htx _ (by obtain ⟨A, c, vo, hW⟩ := HW.out; exact HR4.out _ (Kd.C_below HTK.out hW.below))).mono ?_
        rintro e wt ⟨rfl, bt⟩
        have HWt := Lib.hid (HW.out.imp fun A h => h.imp fun c h => h.imp fun vo h => h.on bt)
        clear bt htx
        go_wp2_with fail
        go_at_call 92
        refine (hrw _ HWt.out).mono ?_
        rintro e wq ⟨rfl, hWq⟩
        have HWq := Lib.hid hWq
        clear hWq hrw
        go_wp2
        go_roundw
        case rel => exact ⟨b, k, _, rfl, by omega, Lib.hid (by have h_ := HK.out; have h2_ := HM1.out; omega), Lib.hid (by rw [← HTO.out, HSP.out, ← HM.out, show a + (b - a) = b from by omega]; simp), HWq⟩
        case measure => have h2_ := HM1.out; simp [intOf]; omega
    | false =>
     rw [hlb] at hle
     rw [hlb] at HSP
     clear hlb
     go_wp2_with fail
     go_at_call 45
     refine (hle _).mono ?_
     rintro e w1 ⟨rfl, b1⟩
     have HX1 := Lib.hid (kBe HX5.out b1)
     have HW1 := Lib.hid (HW5.out.imp fun A h => h.imp fun c h => h.imp fun vo h => h.on b1)
     have HY1 := Lib.hid (HY5.out.imp fun A h => h.imp fun c h => h.imp fun vo h => h.on b1)
     clear b1 hle z0 z1 z2
     have z0 : w1.cell? ⟨g5, 0, none⟩ = some (.int .i64 x.f0) := (kCe HX1.out 0).trans rfl
     have z1 : w1.cell? ⟨g5, 1, none⟩ = some (.int .u8 x.f1) := (kCe HX1.out 1).trans rfl
     have z2 : w1.cell? ⟨g5, 2, none⟩ = some (.int .i64 x.f2) := (kCe HX1.out 2).trans rfl
     cases hdb : digB x with
     | true =>
      rw [hdb] at hdi HSP
      clear hdb
      go_wp2_with fail
      go_at_call 91
      refine (hdi _).mono ?_
      rintro e w2 ⟨rfl, b2⟩
      have HX2 := Lib.hid (kBe HX1.out b2)
      have HW2 := Lib.hid (HW1.out.imp fun A h => h.imp fun c h => h.imp fun vo h => h.on b2)
      have HY2 := Lib.hid (HY1.out.imp fun A h => h.imp fun c h => h.imp fun vo h => h.on b2)
      clear b2 hdi z0 z1 z2
      cases bh with
      | true =>
       have z0 : w2.cell? ⟨g5, 0, none⟩ = some (.int .i64 x.f0) := (kCe HX2.out 0).trans rfl
       have z1 : w2.cell? ⟨g5, 1, none⟩ = some (.int .u8 x.f1) := (kCe HX2.out 1).trans rfl
       have z2 : w2.cell? ⟨g5, 2, none⟩ = some (.int .i64 x.f2) := (kCe HX2.out 2).trans rfl
       have hcv := one_str w2 x.f1
       rw [show strOfNums [x.f1] = oneS x.f1 from rfl] at hcv
       have hpu := fun W (hW : WRx (fun _ => False) w0 W g t l (out')) => put_walk (fun _ => False) w0 W g t l (out') 7 (oneS x.f1) (a : Int) 1 hW (fun _ h => h.elim) HL.out (by have h_ := HLEN.out; (try simp only [List.length_append, List.length_singleton]); omega) (by omega) (by first | decide | exact Nat.le_trans (Nat.le_of_eq HS1.out) (by decide) | exact Nat.le_trans HS1.out (by decide))
       rw [show (findO t.x 7 (oneS x.f1)).getD 0 = ruleI l 7 (oneS x.f1) from by unfold ruleI; rw [HT.out]] at hpu
       go_wp2_with fail
       go_at_call 50
       refine (hpu _ ((HW2.out.imp fun A h => h.imp fun c h => h.imp fun vo h => h.on (bAl (Below.refl _ _) _)))).mono ?_
       rintro e wp ⟨rfl, hWp⟩
       have HW3 := Lib.hid hWp
       clear hWp hpu
       go_wp2
       go_roundw
       case rel => exact ⟨a + 1, k, _, by go_num, by omega, Lib.hid (by have h_ := HK.out; omega), Lib.hid (by rw [← HTO.out, HSP.out]; simp), HW3⟩
       case measure => simp [intOf]; omega
      | false =>
       have hpn := fun W (hW : WRx (fun q => False ∨ q = g5) w0 W g t l out') (hX : ∀ q, (False ∨ q = g5) → q < W.heap.size) => put_walkX (fun q => False ∨ q = g5) w0 W g t l out' 8 numName (a : Int) 0 hW hX (fun q hq => by rw [hq.elim False.elim id]; exact HG5.out) HL.out (by have h_ := HLEN.out; omega) (by omega) (by decide)
       rw [show (findO t.x 8 numName).getD 0 = ruleI l 8 numName from by unfold ruleI; rw [HT.out]] at hpn
       go_wp2_with fail
       go_at_call 50
       refine (hpn _ HY2.out (fun q hq => by rw [hq.elim False.elim id]; exact blk_lt HX2.out)).mono ?_
       rintro e wp ⟨rfl, hWp, hq5⟩
       have HW3 := Lib.hid (hWp.imp fun A h => h.imp fun c h => h.imp fun vo h => h.less (Y := fun _ => False) (fun _ h => h.elim))
       have HX3 : Hid (wp.heap[g5]? = some (.cells (tokV x) 42 (0, 0))) := Lib.hid ((hq5 g5 (.inr rfl)).trans HX2.out)
       clear hWp hpn hq5
       have z0 : wp.cell? ⟨g5, 0, none⟩ = some (.int .i64 x.f0) := (kCe HX3.out 0).trans rfl
       have z1 : wp.cell? ⟨g5, 1, none⟩ = some (.int .u8 x.f1) := (kCe HX3.out 1).trans rfl
       have z2 : wp.cell? ⟨g5, 2, none⟩ = some (.int .i64 x.f2) := (kCe HX3.out 2).trans rfl
       have hcv := one_str wp x.f1
       rw [show strOfNums [x.f1] = oneS x.f1 from rfl] at hcv
       have hpu := fun W (hW : WRx (fun _ => False) w0 W g t l (out' ++ [⟨ruleI l 8 numName, (a : Int), 0⟩])) => put_walk (fun _ => False) w0 W g t l (out' ++ [⟨ruleI l 8 numName, (a : Int), 0⟩]) 7 (oneS x.f1) (a : Int) 1 hW (fun _ h => h.elim) HL.out (by have h_ := HLEN.out; (try simp only [List.length_append, List.length_singleton]); omega) (by omega) (by first | decide | exact Nat.le_trans (Nat.le_of_eq HS1.out) (by decide) | exact Nat.le_trans HS1.out (by decide))
       rw [show (findO t.x 7 (oneS x.f1)).getD 0 = ruleI l 7 (oneS x.f1) from by unfold ruleI; rw [HT.out]] at hpu
       go_wp2_with fail
       go_at_call 50
       refine (hpu _ ((HW3.out.imp fun A h => h.imp fun c h => h.imp fun vo h => h.on (bAl (Below.refl _ _) _)))).mono ?_
       rintro e wp ⟨rfl, hWp⟩
       have HW4 := Lib.hid hWp
       clear hWp hpu
       go_wp2
       go_roundw
       case rel => exact ⟨a + 1, k, _, by go_num, by omega, Lib.hid (by have h_ := HK.out; omega), Lib.hid (by rw [← HTO.out, HSP.out]; simp), HW4⟩
       case measure => simp [intOf]; omega
     | false =>
      rw [hdb] at hdi HSP
      clear hdb
      go_wp2_with fail
      go_at_call 91
      refine (hdi _).mono ?_
      rintro e w2 ⟨rfl, b2⟩
      have HX2 := Lib.hid (kBe HX1.out b2)
      have HW2 := Lib.hid (HW1.out.imp fun A h => h.imp fun c h => h.imp fun vo h => h.on b2)
      clear b2 hdi z0 z1 z2
      have z0 : w2.cell? ⟨g5, 0, none⟩ = some (.int .i64 x.f0) := (kCe HX2.out 0).trans rfl
      have z1 : w2.cell? ⟨g5, 1, none⟩ = some (.int .u8 x.f1) := (kCe HX2.out 1).trans rfl
      have z2 : w2.cell? ⟨g5, 2, none⟩ = some (.int .i64 x.f2) := (kCe HX2.out 2).trans rfl
      by_cases hk1 : x.f0 = 1
      ·
       have hkd : (x.f0 == 1) = true := beq_iff_eq.mpr hk1
       have HSP2 := Lib.hid (show spellGo l toks (k + 1) a = (⟨ruleI l 6 (oneS x.f1), (a : Int), 1⟩ : Pc) :: spellGo l toks k (a + 1) from by rw [HSP.out, if_neg (by decide), if_neg (by decide), if_pos hk1])
       clear hk1
       have hcv := one_str w2 x.f1
       rw [show strOfNums [x.f1] = oneS x.f1 from rfl] at hcv
       have hpu := fun W (hW : WRx (fun _ => False) w0 W g t l (out')) => put_walk (fun _ => False) w0 W g t l (out') 6 (oneS x.f1) (a : Int) 1 hW (fun _ h => h.elim) HL.out (by have h_ := HLEN.out; (try simp only [List.length_append, List.length_singleton]); omega) (by omega) (by first | decide | exact Nat.le_trans (Nat.le_of_eq HS1.out) (by decide) | exact Nat.le_trans HS1.out (by decide))
       rw [show (findO t.x 6 (oneS x.f1)).getD 0 = ruleI l 6 (oneS x.f1) from by unfold ruleI; rw [HT.out]] at hpu
       go_wp2_with fail
       go_at_call 50
       refine (hpu _ ((HW2.out.imp fun A h => h.imp fun c h => h.imp fun vo h => h.on (bAl (Below.refl _ _) _)))).mono ?_
       rintro e wp ⟨rfl, hWp⟩
       have HW3 := Lib.hid hWp
       clear hWp hpu
       go_wp2
       go_roundw
       case rel => exact ⟨a + 1, k, _, by go_num, by omega, Lib.hid (by have h_ := HK.out; omega), Lib.hid (by rw [← HTO.out, HSP2.out]; simp), HW3⟩
       case measure => simp [intOf]; omega
      ·
       have hkd : (x.f0 == 1) = false := beq_eq_false_iff_ne.mpr hk1
       have HSP2 := Lib.hid (show spellGo l toks (k + 1) a = (⟨ruleI l 8 (markF x), (a : Int), 1⟩ : Pc) :: spellGo l toks k (a + 1) from by rw [HSP.out, if_neg (by decide), if_neg (by decide), if_neg hk1])
       clear hk1
       have hmk := fun W => chunk_mark.calls 1 x.f0 x.f1 x.f2 (markF x) W (mark_f x 1 (Nat.le_refl _))
       go_wp2_with fail
       go_at_call 27
       refine (hmk _).mono ?_
       rintro e w3 ⟨rfl, b3⟩
       have HWm := Lib.hid (HW2.out.imp fun A h => h.imp fun c h => h.imp fun vo h => h.on b3)
       clear b3 hmk
       have HS1 := Lib.hid (show (markF x).size ≤ 2 from mark_size x)
       have hpu := fun W (hW : WRx (fun _ => False) w0 W g t l (out')) => put_walk (fun _ => False) w0 W g t l (out') 8 (markF x) (a : Int) 1 hW (fun _ h => h.elim) HL.out (by have h_ := HLEN.out; (try simp only [List.length_append, List.length_singleton]); omega) (by omega) (by first | decide | exact Nat.le_trans (Nat.le_of_eq HS1.out) (by decide) | exact Nat.le_trans HS1.out (by decide))
       rw [show (findO t.x 8 (markF x)).getD 0 = ruleI l 8 (markF x) from by unfold ruleI; rw [HT.out]] at hpu
       go_wp2_with fail
       go_at_call 50
       refine (hpu _ (HWm.out)).mono ?_
       rintro e wp ⟨rfl, hWp⟩
       have HW3 := Lib.hid hWp
       clear hWp hpu
       go_wp2
       go_roundw
       case rel => exact ⟨a + 1, k, _, by go_num, by omega, Lib.hid (by have h_ := HK.out; omega), Lib.hid (by rw [← HTO.out, HSP2.out]; simp), HW3⟩
       case measure => simp [intOf]; omega
  ·
   have HE := Lib.hid (show out' = tot from by
    rw [← HTO.out]
    cases k with
    | zero => simp [spellGo]
    | succ k => unfold spellGo; rw [List.getElem?_eq_none (by omega)]; simp)
   obtain rfl : a = toks.length := by omega
   go_wp2
   refine bodyPost_end (v := .tuple #[]) (by simp [results, Tryz.results51, go_sem]) rfl ?_
   exact ⟨rfl, by rw [← HE.out]; exact HW.out⟩
end Go.Proofs.YtbpbniemjjhecaaGreat.G
