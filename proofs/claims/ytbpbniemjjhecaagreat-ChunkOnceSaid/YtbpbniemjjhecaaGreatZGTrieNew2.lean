import Derived.Test.YtbpbniemjjhecaaGreatZGTrieNew
namespace Go.Proofs.YtbpbniemjjhecaaGreat.G
set_option linter.unusedVariables false
set_option linter.unusedSimpArgs false
open Go.RowKit Go.Maps Go.Proofs.YtbpbniemjjhecaaGreat.GM Go.Proofs.YtbpbniemjjhecaaGreat.GT Go.Proofs.YtbpbniemjjhecaaGreat.PChk Go.Proofs.YtbpbniemjjhecaaGreat.PureC Go.Proofs.YtbpbniemjjhecaaGreatW.PrintWords Go.Proofs.YtbpbniemjjhecaaGreatW.PrintLast Go.Proofs.YtbpbniemjjhecaaGreatW.PrintMore
def trie_New.f (l0 : List Rl) : Option (Option (Option (List Rl)) × Int × Int) := (check_Table.f l0).bind fun r => if r.2 = 0 then (if fitB l0 = true ∧ r.1 = 0 then some (some (some l0), 0, 0) else none) else some (none, r.1, r.2)
set_option maxHeartbeats 3200000 in
set_option maxRecDepth 100000 in
theorem new_err (A0 : Option Addr) (c0 : Nat) (l0 : List Rl) (line e : Int) (w : World) (hr0 : Kd.C k50 w A0 l0.length l0) (hc0 : l0.length ≤ c0) (ht : check_Table.f l0 = some (line, e)) (he : e ≠ 0) :
    Calls Tryz.prog 12 #[.slice A0 l0.length c0] w fun ex w' => ex = .returned (.tuple #[.pointer none, .int .i64 line, .int .i64 e]) ∧ Below w.heap.size w w' := by
  have hct := check_Table.calls A0 c0 l0 line e w hr0 hc0 ht
  have heb : (e != 0) = true := bne_iff_ne.mpr he
  clear hr0 hc0 ht he
  go_enter Tryz.func12, Tryz.ntmps12
  go_wp2_with (go_at_call 34; refine hct.mono ?_; rintro ex w1 ⟨rfl, b1⟩)
  refine bodyPost_ret (v := .tuple #[.pointer none, .int .i64 line, .int .i64 e]) (by simp [results, Tryz.results12, go_sem]) rfl ?_
  exact ⟨rfl, b1⟩
theorem rows_skip (l : List Rl) (p q : Nat) (x : Rl) (hT : l.take (p + 1) = l.take p ++ [x]) (hb : inB x.f0 (q : Int) = false) :
    (fun n : Nat => if n < q + 1 then rowL n (l.take (p + 1)) else rowL n (l.take p)) = fun n : Nat => if n < q then rowL n (l.take (p + 1)) else rowL n (l.take p) := by
  funext n
  by_cases e : n = q
  · subst e
    rw [if_pos (by omega), if_neg (by omega), hT, rowL_snoc, if_neg (by rw [hb]; decide)]
  · by_cases h : n < q
    · rw [if_pos h, if_pos (by omega)]
    · rw [if_neg h, if_neg (by omega)]
theorem rows_take (l : List Rl) (p q : Nat) (x : Rl) (hT : l.take (p + 1) = l.take p ++ [x]) (hl : (l.take p).length = p) (hb : inB x.f0 (q : Int) = true) :
    (fun n : Nat => if n < q + 1 then rowL n (l.take (p + 1)) else rowL n (l.take p)) q = (fun n : Nat => if n < q then rowL n (l.take (p + 1)) else rowL n (l.take p)) q ++ [(x.f2.data.toList, (p : Int))] := by
  show (if q < q + 1 then _ else _) = (if q < q then _ else _) ++ _
  rw [if_pos (by omega), if_neg (by omega), hT, rowL_snoc, if_pos hb, hl]
theorem rows_other (l : List Rl) (p q i : Nat) (h : i ≠ q) :
    (fun n : Nat => if n < q + 1 then rowL n (l.take (p + 1)) else rowL n (l.take p)) i = (fun n : Nat => if n < q then rowL n (l.take (p + 1)) else rowL n (l.take p)) i := by
  show (if i < q + 1 then _ else _) = (if i < q then _ else _)
  by_cases h2 : i < q
  · rw [if_pos h2, if_pos (by omega)]
  · rw [if_neg h2, if_neg (by omega)]
set_option maxHeartbeats 6400000 in
set_option maxRecDepth 100000 in
theorem new_ok (A0 : Option Addr) (c0 : Nat) (l0 : List Rl) (line : Int) (w : World) (hr0 : Kd.C k50 w A0 l0.length l0) (hc0 : l0.length ≤ c0) (ht : check_Table.f l0 = some (line, 0)) (hf : fitB l0 = true) :
    Calls Tryz.prog 12 #[.slice A0 l0.length c0] w fun ex w' => ∃ v, ex = .returned (.tuple #[v, .int .i64 0, .int .i64 0]) ∧ TV w' v (some (some l0)) ∧ Below w.heap.size w w' ∧ ∀ W : World, (∀ k, w.heap.size ≤ k → k < w'.heap.size → W.heap[k]? = w'.heap[k]?) → TV W v (some (some l0)) := by
  have hct := check_Table.calls A0 c0 l0 line 0 w hr0 hc0 ht
  have HR := Lib.hid hr0
  obtain ⟨hl, hx⟩ := fit_of hf
  have HX := Lib.hid hx
  have HF := Lib.hid hf
  have hmm := @run_makeMap Tryz.prog
  clear hr0 ht hx hf
  go_enter Tryz.func12, Tryz.ntmps12
  go_wp2_with (first | (go_at_call 34; refine hct.mono ?_; rintro ex w1 ⟨rfl, b1⟩; have HB1 := Lib.hid b1; have hcl := rules_clone.calls A0 c0 l0 w1 (Kd.C_below HR.out b1) (by omega); clear b1 hct) | (go_at_call 35; refine hcl.mono ?_; rintro ex w2 ⟨v1, rfl, hR1, b2⟩; obtain ⟨A, c, rfl, hc, hC⟩ := Kd.R_reads hR1; have HAB := Lib.hid (show ∀ ad, A = some ad → w.heap.size ≤ ad.block from fun ad e => by subst e; obtain ⟨inner, ho, _⟩ := hR1.2; exact Nat.le_trans HB1.out.size (own_base ho ad.block rfl)); have HB2 := Lib.hid (bSp HB1.out b2); have HC2 := Lib.hid hC; clear b2 hcl hR1 hC))
  obtain ⟨m, hm⟩ : ∃ m, w2.heap.size = m := ⟨_, rfl⟩
  have HM := Lib.hid hm
  have P0 : PS w2 (((w2.alloc (.map #[] 0)).alloc (.map #[] 0)).alloc (.cells #[.slice A l0.length c, .map none, .map none, .map none, .map none, .map none, .map none, .map none, .map none, .map (some w2.heap.size), .map (some (w2.heap.size + 1))] 73)) m A c l0 0 := by
    subst hm
    have z1 := World.size_alloc w2 (.map #[] 0)
    have z2 := World.size_alloc (w2.alloc (.map #[] 0)) (.map #[] 0)
    refine ⟨?_, by simp, ?_, ?_, fun n hn => absurd hn (Nat.not_lt_zero _), HC2.out, hc, rfl, (((Below.refl _ _).alloc (Nat.le_refl _) _).alloc (by simp) _).alloc (by simp; omega) _⟩
    · have h := heap_alloc_new ((w2.alloc (.map #[] 0)).alloc (.map #[] 0)) (.cells #[.slice A l0.length c, .map none, .map none, .map none, .map none, .map none, .map none, .map none, .map none, .map (some w2.heap.size), .map (some (w2.heap.size + 1))] 73)
      rw [z2, z1] at h
      exact h
    · rw [hAO _ _ (by simp; omega), hAO _ _ (by simp)]
      exact heap_alloc_new _ _
    · rw [hAO _ _ (by simp)]
      have h := heap_alloc_new (w2.alloc (.map #[] 0)) (.map #[] 0)
      rwa [z1] at h
  have HP0 := Lib.hid P0
  have HB3 := Lib.hid (bSp HB2.out (show Below w2.heap.size w2 (((w2.alloc (.map #[] 0)).alloc (.map #[] 0)).alloc (.cells #[.slice A l0.length c, .map none, .map none, .map none, .map none, .map none, .map none, .map none, .map none, .map (some w2.heap.size), .map (some (w2.heap.size + 1))] 73)) from (((Below.refl _ _).alloc (Nat.le_refl _) _).alloc (by simp) _).alloc (by simp; omega) _))
  have HWM := Lib.hid (show w.heap.size ≤ m from by rw [← hm]; exact HB2.out.size)
  simp only [Nat.add_assoc, Nat.reduceAdd]
  rw [hm]
  rw [hm] at P0 HB3 HP0
  clear P0 hm
  go_loopw [26] (fun i wr => ∃ j : Nat, i = .int .i64 (j : Int) ∧ j ≤ 4 ∧ Hid (PS w2 wr m A c l0 j) ∧ Hid (Below w.heap.size w wr)) (fun i _ => 4 - (intOf i).toNat)
  case atStart => exact ⟨0, rfl, by omega, HP0, HB3⟩
  case round =>
    clear HP0 HB3
    obtain ⟨j, rfl, hj, HP, HB⟩ := hrel
    by_cases hlt : j < 4
    · have hPo := HP.out.obj
      have hPs := HP.out.size
      have hbg := walk_begin.calls wr.drew
      rw [show wr.drew.heap.size = m + 3 + 3 * j from hPs] at hbg
      have fr : ∀ w' : World, Below (m + 3 + 3 * j) wr.drew w' → ∀ i, w'.frozen? ⟨m + 2, i, none⟩ = false := fun w' hb i => by
        have h := (hb.block (m + 2) (by omega)).trans (show wr.drew.heap[m + 2]? = _ from hPo)
        simp [World.frozen?, h]
      have cf : ∀ w' : World, Below (m + 3 + 3 * j) wr.drew w' → ∀ i, w'.cell? ⟨m + 2, i, none⟩ = (cellsJ A l0.length c m j)[i]? := fun w' hb i => by
        have h := (hb.block (m + 2) (by omega)).trans (show wr.drew.heap[m + 2]? = _ from hPo)
        simp [World.cell?, h]
      have nx : ∀ w' : World, Below (m + 3 + 3 * j) wr.drew w' → w'.heap.size = m + 3 + 3 * j + 3 → w'.heap[m + 3 + 3 * j + 1]? = some (.map #[] 0) → w'.heap[m + 3 + 3 * j + 2]? = some (.map #[] 0) → PS w2 ((w'.setCell ⟨m + 2, 1 + 2 * j, none⟩ (.map (some (m + 4 + 3 * j)))).setCell ⟨m + 2, 2 + 2 * j, none⟩ (.map (some (m + 5 + 3 * j)))) m A c l0 (j + 1) ∧ Below w.heap.size w ((w'.setCell ⟨m + 2, 1 + 2 * j, none⟩ (.map (some (m + 4 + 3 * j)))).setCell ⟨m + 2, 2 + 2 * j, none⟩ (.map (some (m + 5 + 3 * j)))) := fun w' hb hz h1 h2 => by
        have hb2 : Below wr.heap.size wr w' := bSp (below_drew (Below.refl _ _)) (by rw [show wr.drew.heap.size = m + 3 + 3 * j from hPs]; exact hb)
        rw [← hPs] at hz h1 h2
        have hwm := HWM.out
        exact ⟨PS.next HP.out hlt hb2 hz h1 h2, ((bSp HB.out hb2).setCell (p := ⟨m + 2, 1 + 2 * j, none⟩) (by show _ ≤ m + 2; omega) _).setCell (p := ⟨m + 2, 2 + 2 * j, none⟩) (by show _ ≤ m + 2; omega) _⟩
      have CF := Lib.hid (And.intro fr (And.intro cf nx))
      clear hPo hPs fr cf nx
      obtain rfl | rfl | rfl | rfl : j = 0 ∨ j = 1 ∨ j = 2 ∨ j = 3 := by omega
      all_goals
        simp only [Nat.mul_zero, Nat.reduceMul, Nat.reduceAdd, Nat.add_zero, Nat.add_assoc] at hbg CF
        go_wp2
        go_region_with (go_at_call 36; refine hbg.mono ?_; rintro ex w' ⟨rfl, hz, h1, h2, hb⟩; have f1 := CF.out.1 w' hb; have g1 := CF.out.2.1 w' hb; have f11 := f1 1; have f12 := f1 2; have f13 := f1 3; have f14 := f1 4; have f15 := f1 5; have f16 := f1 6; have f17 := f1 7; have f18 := f1 8; have g11 := g1 1; have g12 := g1 2; have g13 := g1 3; have g14 := g1 4; have g15 := g1 5; have g16 := g1 6; have g17 := g1 7; have g18 := g1 8; simp [cellsJ, mapV] at g11 g12 g13 g14 g15 g16 g17 g18; have HN := Lib.hid (CF.out.2.2 w' hb hz h1 h2); clear f1 g1 hz h1 h2)
        go_wp2
        go_roundw
        case rel => exact ⟨_, by go_num, by omega, Lib.hid HN.out.1, Lib.hid HN.out.2⟩
        case measure => simp [intOf]
    · obtain rfl : j = 4 := by omega
      have HT0 := Lib.hid (show TS wr m A c l0 (fun n => rowL n (l0.take 0)) (l0.take 0) (l0.take 0) from HP.out.full)
      clear HP
      have HBR := HB
      clear HB
      go_wp2
      go_loopw [38] (fun i wr2 => ∃ p : Nat, i = .int .i64 (p : Int) ∧ p ≤ l0.length ∧ Hid (TS wr2 m A c l0 (fun n => rowL n (l0.take p)) (l0.take p) (l0.take p)) ∧ Hid (Below w.heap.size w wr2)) (fun i _ => l0.length - (intOf i).toNat)
      case atStart => exact ⟨0, rfl, Nat.zero_le _, HT0, HBR⟩
      case round =>
        clear HT0 HBR
        obtain ⟨p, rfl, hp, HT, HB⟩ := hrel
        by_cases hlt : p < l0.length
        · obtain ⟨x, hx⟩ : ∃ x, l0[p]? = some x := ⟨l0[p], List.getElem?_eq_getElem hlt⟩
          have hxm : x ∈ l0 := List.mem_of_getElem? hx
          obtain ⟨x0, x8, x1, x2⟩ := HX.out x hxm
          have hrd : rd_T50 l0 (p : Int) = x := by simp [rd_T50, hx]
          have hTk : l0.take (p + 1) = l0.take p ++ [x] := by rw [List.take_add_one, hx]; rfl
          have htl : (l0.take p).length = p := by rw [List.length_take]; omega
          obtain ⟨ad, e, g0, g1, g2, g3, g4⟩ := at_T50 HR.out (p : Int) (by omega) (by omega)
          rw [hrd] at g0 g1 g2 g3 g4
          simp only [Int.toNat_natCast] at g0 g1 g2 g3 g4
          cases e
          have hbb := HB.out
          replace g0 := (hbb.cell (World.block_lt_of_cell? w _ g0)).trans g0
          replace g1 := (hbb.cell (World.block_lt_of_cell? w _ g1)).trans g1
          replace g2 := (hbb.cell (World.block_lt_of_cell? w _ g2)).trans g2
          replace g3 := (hbb.cell (World.block_lt_of_cell? w _ g3)).trans g3
          replace g4 := (hbb.cell (World.block_lt_of_cell? w _ g4)).trans g4
          -- the rule's own block, and its left side among the lefts
          obtain ⟨W1, hW1⟩ : ∃ W1, W1 = wr.alloc (.cells #[.int .i64 x.f0, .string x.f1, .string x.f2, .int .i64 x.f3, .int .i64 x.f4] 50) := ⟨_, rfl⟩
          have T1 : TS W1 m A c l0 (fun n => rowL n (l0.take p)) (l0.take p) (l0.take p) := by rw [hW1]; exact HT.out.alloc _
          have B1 : Below w.heap.size w W1 := by rw [hW1]; exact bAl hbb _
          have O1 : W1.heap[wr.heap.size]? = some (.cells #[.int .i64 x.f0, .string x.f1, .string x.f2, .int .i64 x.f3, .int .i64 x.f4] 50) := by rw [hW1]; exact heap_alloc_new _ _
          obtain ⟨W2, hrun, T2, hturn⟩ := T1.drew.put_left x ⟨WalkArith.wf_i64 (by omega), by show x.f1.size ≤ maxLen; unfold maxLen; omega⟩ (by omega)
          rw [htl] at hrun
          rw [← hTk] at T2
          have hmlt := HT.out.lt
          have HLT := Lib.hid hmlt
          have B2 := below_turned (below_drew B1) hturn (by exact B1.size) (by have := HWM.out; omega)
          have O2 := (hturn.grown.block wr.heap.size (by exact (Array.getElem?_eq_some_iff.1 O1).1) (fun e => by injection e with e; omega)).trans (show W1.drew.heap[wr.heap.size]? = _ from O1)
          have c10 : W1.cell? ⟨m + 2, 10, none⟩ = some (.map (some (m + 1))) := by simp [World.cell?, T1.obj, trieCells]
          have y0 : W2.cell? ⟨wr.heap.size, 0, none⟩ = some (.int .i64 x.f0) := by simp [World.cell?, O2]
          have HT2 := Lib.hid T2
          have HB2 := Lib.hid B2
          have HO2 := Lib.hid O2
          have hp1 : (p : Int) ≤ (c0 : Int) := by omega
          have hp2 : (p : Int) < (l0.length : Int) := by omega
          have hp3 : p ≤ c0 := by omega
          clear T1 B1 T2 hturn B2 O2 hbb hrd hmlt
          rw [hW1] at c10 hrun O1
          have HTK := Lib.hid (And.intro hTk htl)
          clear hW1 O1 hTk htl hx hxm HT HB
          go_wp2
          go_region
          obtain ⟨b, hb⟩ : ∃ b, wr.heap.size = b := ⟨_, rfl⟩
          have HBS := Lib.hid (show m + 2 < b from by have := HLT.out; omega)
          rw [hb] at y0 HO2 ⊢
          by_cases h5 : x.f0 = 5
          all_goals first
            | (have h5b : (x.f0 == 5) = true := beq_iff_eq.mpr h5
               obtain ⟨W3, hrun3, T3, hturn3⟩ := HT2.out.drew.put_word x (by show x.f2.size ≤ maxLen; unfold maxLen; omega) h5 (by have := HTK.out.2; omega)
               rw [HTK.out.2] at hrun3
               rw [← HTK.out.1] at T3
               have B3 := below_turned (below_drew HB2.out) hturn3 (by exact HB2.out.size) (by have := HWM.out; omega)
               have O3 := (hturn3.grown.block b (by exact (Array.getElem?_eq_some_iff.1 HO2.out).1) (fun e => by injection e with e; have := HBS.out; omega)).trans (show W2.drew.heap[b]? = _ from HO2.out)
               have c9 : W2.cell? ⟨m + 2, 9, none⟩ = some (.map (some m)) := by simp [World.cell?, HT2.out.obj, trieCells]
               have y2 : W2.cell? ⟨b, 2, none⟩ = some (.string x.f2) := by simp [World.cell?, HO2.out]
               have HT3 := Lib.hid T3
               have HB3 := Lib.hid B3
               have HO3 := Lib.hid O3
               clear T3 B3 O3 hturn3 hrun c10 g0 g1 g2 g3 g4 HT2 HB2 HO2
               go_wp2
               go_region
               go_wp2)
            | (have h5b : (x.f0 == 5) = false := beq_eq_false_iff_ne.mpr h5
               have HT3 := Lib.hid (HT2.out.no_word x h5)
               rw [← HTK.out.1] at HT3
               have HB3 := HB2
               have HO3 := HO2
               clear hrun c10 g0 g1 g2 g3 g4 HT2 HB2 HO2
               go_wp2)
          all_goals
            try clear c9 hrun3
            try clear y2
            try clear y0
            clear h5b
            clear h5
            go_loopw [63] (fun i wr => ∃ q : Nat, i = .int .i64 (q : Int) ∧ q ≤ 4 ∧ Hid (TS wr m A c l0 (fun n => if n < q then rowL n (l0.take (p + 1)) else rowL n (l0.take p)) (l0.take (p + 1)) (l0.take (p + 1))) ∧ Hid (Below w.heap.size w wr) ∧ Hid (wr.heap[b]? = some (.cells #[.int .i64 x.f0, .string x.f1, .string x.f2, .int .i64 x.f3, .int .i64 x.f4] 50))) (fun i _ => 4 - (intOf i).toNat)
            case atStart => exact ⟨0, rfl, Nat.zero_le _, HT3, HB3, HO3⟩
            case round =>
              clear HT3 HB3 HO3
              obtain ⟨q, rfl, hq, HT, HB, HO⟩ := hrel
              by_cases hlt4 : q < 4
              · have hO := HO.out
                have z0 : wr.cell? ⟨b, 0, none⟩ = some (.int .i64 x.f0) := by simp [World.cell?, hO]
                have z1 : wr.cell? ⟨b, 1, none⟩ = some (.string x.f1) := by simp [World.cell?, hO]
                have z2 : wr.cell? ⟨b, 2, none⟩ = some (.string x.f2) := by simp [World.cell?, hO]
                have z3 : wr.cell? ⟨b, 3, none⟩ = some (.int .i64 x.f3) := by simp [World.cell?, hO]
                have z4 : wr.cell? ⟨b, 4, none⟩ = some (.int .i64 x.f4) := by simp [World.cell?, hO]
                have hin := check_In.calls 8 x.f0 x.f1 x.f2 x.f3 x.f4 (q : Int) (inB x.f0 q) wr (in_check 8 (by omega) _ _ _ _ _ _)
                clear hO
                cases hib : inB x.f0 (q : Int) with
                | false =>
                  rw [hib] at hin
                  go_wp2_with (go_at_call 37; refine hin.mono ?_; rintro ex W4 ⟨rfl, b4⟩; have HT4 := Lib.hid (HT.out.below b4); have HB4 := Lib.hid (bSp HB.out b4); have HO4 := Lib.hid ((b4.block b (Array.getElem?_eq_some_iff.1 HO.out).1).trans HO.out); clear z0 z1 z2 z3 z4 hin b4)
                  go_roundw
                  case rel => (repeat apply Exists.intro); exact ⟨⟨q + 1, by go_num, by omega, Lib.hid (by rw [rows_skip l0 p q x HTK.out.1 hib]; exact HT4.out), HB4, HO4⟩, rfl⟩
                  case measure => simp [intOf]; omega
                | true =>
                  rw [hib] at hin
                  go_wp2_with (go_at_call 37; refine hin.mono ?_; rintro ex W4 ⟨rfl, b4⟩)
                  have T4 := HT.out.below b4
                  have B4 := bSp HB.out b4
                  have O4 := (b4.block b (Array.getElem?_eq_some_iff.1 HO.out).1).trans HO.out
                  have HT4 := Lib.hid T4
                  have HB4 := Lib.hid B4
                  have HO4 := Lib.hid O4
                  have hFq : (if q < q then rowL q (l0.take (p + 1)) else rowL q (l0.take p)) = rowL q (l0.take p) := if_neg (by omega)
                  have hSq := T4.steps q hlt4
                  obtain ⟨k, hk, hEq⟩ := T4.ends q hlt4
                  simp only [hFq] at hSq hEq hk
                  have htn := tree_n q (l0.take p) (fun y hy => (HX.out y (List.mem_of_mem_take hy)).2.2.2)
                  have hrl := rowL_len q (l0.take p)
                  rw [HTK.out.2] at htn hrl
                  have hpt := walk_put.calls (m + 4 + 3 * q) (m + 5 + 3 * q) x.f2 (p : Int) (build (rowL q (l0.take p))) k (build_inv _) (by omega) (by omega) (WalkArith.wf_i64 (by omega)) (by omega) W4.drew (hSq.move rfl) (hEq.move rfl)
                  have nx : ∀ W5 : World, Steps W5 (m + 4 + 3 * q) ((build (rowL q (l0.take p))).put x.f2.data.toList (p : Int)).st ((build (rowL q (l0.take p))).put x.f2.data.toList (p : Int)).n → (∃ k', k' ≤ k + 1 ∧ Ends W5 (m + 5 + 3 * q) ((build (rowL q (l0.take p))).put x.f2.data.toList (p : Int)).en k') → Two W4.drew W5 (m + 4 + 3 * q) (m + 5 + 3 * q) → TS W5 m A c l0 (fun n => if n < q + 1 then rowL n (l0.take (p + 1)) else rowL n (l0.take p)) (l0.take (p + 1)) (l0.take (p + 1)) ∧ Below w.heap.size w W5 ∧ W5.heap[b]? = some (.cells #[.int .i64 x.f0, .string x.f1, .string x.f2, .int .i64 x.f3, .int .i64 x.f4] 50) := fun W5 h1 h2 h3 => by
                    refine ⟨TS.put_row (HT4.out.drew) q hlt4 x.f2.data.toList (p : Int) k h3 (by simp only [hFq]; exact hk) (by simp only [hFq]; exact h1) (by simp only [hFq]; exact h2) _ (rows_take l0 p q x HTK.out.1 HTK.out.2 hib) (fun i hi => rows_other l0 p q i hi), ?_, ?_⟩
                    · have hwm := HWM.out
                      exact below_two (below_drew HB4.out) h3 (by exact HB4.out.size) (by omega) (by omega)
                    · obtain ⟨es, cl, hm1⟩ := MapI.is hSq
                      obtain ⟨es2, cl2, hm2⟩ := MapI.is hEq
                      exact (h3.block b (by exact (Array.getElem?_eq_some_iff.1 O4).1) (map_ne hm1 O4) (map_ne hm2 O4)).trans O4
                  have HNX := Lib.hid nx
                  have d1 : W4.cell? ⟨m + 2, 1 + 2 * q, none⟩ = some (.map (some (m + 4 + 3 * q))) ∧ W4.cell? ⟨m + 2, 2 + 2 * q, none⟩ = some (.map (some (m + 5 + 3 * q))) := by
                    have hcell : ∀ j, W4.cell? ⟨m + 2, j, none⟩ = (trieCells A l0.length c m)[j]? := fun j => by simp [World.cell?, T4.obj]
                    rw [hcell, hcell]
                    obtain rfl | rfl | rfl | rfl : q = 0 ∨ q = 1 ∨ q = 2 ∨ q = 3 := by omega
                    all_goals simp [trieCells]
                  obtain ⟨d1, d2⟩ := d1
                  have y2 : W4.cell? ⟨b, 2, none⟩ = some (.string x.f2) := by simp [World.cell?, O4]
                  clear nx hFq hSq hEq htn hrl hk T4 B4 O4 z0 z1 z2 z3 z4 hin b4
                  generalize (build (rowL q (l0.take p))).put x.f2.data.toList (p : Int) = K at hpt HNX
                  obtain rfl | rfl | rfl | rfl : q = 0 ∨ q = 1 ∨ q = 2 ∨ q = 3 := by omega
                  all_goals
                    simp only [Nat.mul_zero, Nat.reduceMul, Nat.reduceAdd, Nat.add_zero] at hpt d1 d2
                    go_wp2
                    go_region_with (go_at_call 38; refine hpt.mono ?_; rintro ex W5 ⟨rfl, h1, h2, h3⟩; have HN := Lib.hid (HNX.out W5 h1 h2 h3); clear h1 h2 h3)
                    all_goals go_wp2
                    all_goals
                      go_roundw
                      case rel => (repeat apply Exists.intro); exact ⟨⟨_, by go_num, by omega, Lib.hid HN.out.1, Lib.hid HN.out.2.1, Lib.hid HN.out.2.2⟩, rfl⟩
                      case measure => simp [intOf]
              · obtain rfl : q = 4 := by omega
                have HT5 := Lib.hid (HT.out.same (F' := fun n => rowL n (l0.take (p + 1))) (fun n hn => if_pos hn))
                have HB5 := HB
                clear HT HB HO
                go_wp2
                go_roundw
                case rel => first | exact ⟨p + 1, by go_num, by omega, HT5, HB5⟩ | ((repeat apply Exists.intro); exact ⟨⟨p + 1, by go_num, by omega, HT5, HB5⟩, rfl⟩)
                case measure => simp [intOf]; omega
        · obtain rfl : p = l0.length := by omega
          have hT := HT.out
          rw [List.take_length] at hT
          have HT5 := Lib.hid hT
          clear hT HT
          go_wp2
          refine bodyPost_ret (v := .tuple #[.pointer (some ⟨m + 2, 0, none⟩), .int .i64 0, .int .i64 0]) (by simp [results, Tryz.results12, go_sem]) rfl ?_
          exact ⟨_, rfl, ⟨HF.out, m, A, c, rfl, HT5.out⟩, HB.out, fun W hW => ⟨HF.out, m, A, c, rfl, HT5.out.fresh HWM.out HAB.out hW⟩⟩
theorem trie_New.calls (A0 : Option Addr) (c0 : Nat) (l0 : List Rl) (x : Option (Option (List Rl))) (r1 r2 : Int) (w : World) (hr0 : Kd.C k50 w A0 l0.length l0) (hc0 : l0.length ≤ c0) (h : trie_New.f l0 = some (x, r1, r2)) :
    Calls Tryz.prog 12 #[.slice A0 l0.length c0] w fun ex w' => ∃ v, ex = .returned (.tuple #[v, .int .i64 r1, .int .i64 r2]) ∧ TV w' v x ∧ Below w.heap.size w w' := by
  unfold trie_New.f at h
  obtain ⟨⟨line, e⟩, ht, h⟩ := Option.bind_eq_some_iff.mp h
  simp only at h
  by_cases he : e = 0
  · subst he
    rw [if_pos rfl] at h
    by_cases hf : fitB l0 = true ∧ line = 0
    · rw [if_pos hf] at h
      simp only [Option.some.injEq, Prod.mk.injEq] at h
      obtain ⟨rfl, rfl, rfl⟩ := h
      exact (new_ok A0 c0 l0 line w hr0 hc0 ht hf.1).mono fun ex w' ⟨v, h1, h2, h3, _⟩ => ⟨v, h1, h2, h3⟩
    · rw [if_neg hf] at h
      cases h
  · rw [if_neg he] at h
    simp only [Option.some.injEq, Prod.mk.injEq] at h
    obtain ⟨rfl, rfl, rfl⟩ := h
    exact (new_err A0 c0 l0 line e w hr0 hc0 ht he).mono fun ex w' ⟨h1, h2⟩ => ⟨_, h1, rfl, h2⟩
theorem trie_New.fresh (A0 : Option Addr) (c0 : Nat) (l0 : List Rl) (w : World) (hr0 : Kd.C k50 w A0 l0.length l0) (hc0 : l0.length ≤ c0) (h : trie_New.f l0 = some (some (some l0), 0, 0)) :
    Calls Tryz.prog 12 #[.slice A0 l0.length c0] w fun ex w' => ∃ v, ex = .returned (.tuple #[v, .int .i64 0, .int .i64 0]) ∧ TV w' v (some (some l0)) ∧ Below w.heap.size w w' ∧ ∀ W : World, (∀ k, w.heap.size ≤ k → k < w'.heap.size → W.heap[k]? = w'.heap[k]?) → TV W v (some (some l0)) := by
  unfold trie_New.f at h
  obtain ⟨⟨line, e⟩, ht, h⟩ := Option.bind_eq_some_iff.mp h
  simp only at h
  by_cases he : e = 0
  · subst he
    rw [if_pos rfl] at h
    by_cases hf : fitB l0 = true ∧ line = 0
    · exact new_ok A0 c0 l0 line w hr0 hc0 ht hf.1
    · rw [if_neg hf] at h
      cases h
  · rw [if_neg he] at h
    simp at h
end Go.Proofs.YtbpbniemjjhecaaGreat.G
