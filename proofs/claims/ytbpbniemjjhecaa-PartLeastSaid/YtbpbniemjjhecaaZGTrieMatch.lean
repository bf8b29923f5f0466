import Derived.Test.YtbpbniemjjhecaaZGTrieRead
namespace Go.Proofs.Ytbpbniemjjhecaa.G
set_option linter.unusedVariables false
set_option linter.unusedSimpArgs false
open Go.RowKit Go.Maps Go.Proofs.Ytbpbniemjjhecaa.GM Go.Proofs.Ytbpbniemjjhecaa.GT Go.Proofs.Ytbpbniemjjhecaa.PChk Go.Proofs.Ytbpbniemjjhecaa.PureC Go.Proofs.YtbpbniemjjhecaaW.PrintWords Go.Proofs.YtbpbniemjjhecaaW.PrintLast Go.Proofs.YtbpbniemjjhecaaW.PrintMore
theorem made_of {x : Option (Option (List Rl))} {l : List Rl} (h : x.join = some l) : x = some (some l) := by
 cases x with
 | none => cases h
 | some y => cases y with
  | none => cases h
  | some z => cases h; rfl
set_option maxHeartbeats 3200000 in
set_option maxRecDepth 100000 in
theorem trie_Match.none (v : Value) (x : Option (Option (List Rl))) (s : ByteArray) (a row : Int) (w : World) (h : TV w v x) (hm : x.join = Option.none ∨ a < 0 ∨ a ≥ (s.size : Int) ∨ row < 0 ∨ row ≥ 4) :
  Calls Try.prog 13 #[v, .string s, .int .i64 a, .int .i64 row] w fun e w' => e = .returned (.tuple #[.int .i64 0, .bool false]) ∧ w' = w := by
 have hn := trie_none.calls v x w h
 generalize hj : x.join = j at hn hm
 clear h hj
 cases j with
 | none =>
  clear hm
  go_enter Try.func13, Try.ntmps13
  go_wp2_with (go_at_call 39; refine hn.mono ?_; rintro e w' ⟨rfl, rfl⟩)
  go_ret2
  exact ⟨rfl, rfl⟩
 | some l =>
  replace hm : a < 0 ∨ a ≥ (s.size : Int) ∨ row < 0 ∨ row ≥ 4 := hm.resolve_left (by simp)
  by_cases h1 : a < 0
  ·
   have h1b : decide (a < 0) = true := decide_eq_true h1
   clear hm
   go_enter Try.func13, Try.ntmps13
   go_wp2_with (go_at_call 39; refine hn.mono ?_; rintro e w' ⟨rfl, rfl⟩)
   go_ret2
   exact ⟨rfl, rfl⟩
  ·
   have h1b : decide (a < 0) = false := decide_eq_false h1
   by_cases h2 : a ≥ (s.size : Int)
   ·
    have h2b : decide (a ≥ (s.size : Int)) = true := decide_eq_true h2
    have h2c : decide ((s.size : Int) ≤ a) = true := decide_eq_true h2
    clear hm
    go_enter Try.func13, Try.ntmps13
    go_wp2_with (go_at_call 39; refine hn.mono ?_; rintro e w' ⟨rfl, rfl⟩)
    go_ret2
    exact ⟨rfl, rfl⟩
   ·
    have h2b : decide (a ≥ (s.size : Int)) = false := decide_eq_false h2
    have h2c : decide ((s.size : Int) ≤ a) = false := decide_eq_false h2
    by_cases h3 : row < 0
    ·
     have h3b : decide (row < 0) = true := decide_eq_true h3
     clear hm
     go_enter Try.func13, Try.ntmps13
     go_wp2_with (go_at_call 39; refine hn.mono ?_; rintro e w' ⟨rfl, rfl⟩)
     go_ret2
     exact ⟨rfl, rfl⟩
    ·
     have h3b : decide (row < 0) = false := decide_eq_false h3
     have h4 : row ≥ 4 := by omega
     have h4b : decide (row ≥ 4) = true := decide_eq_true h4
     have h4c : decide (4 ≤ row) = true := decide_eq_true h4
     clear hm
     go_enter Try.func13, Try.ntmps13
     go_wp2_with (go_at_call 39; refine hn.mono ?_; rintro e w' ⟨rfl, rfl⟩)
     go_ret2
     exact ⟨rfl, rfl⟩
set_option maxHeartbeats 3200000 in
set_option maxRecDepth 100000 in
theorem trie_Match.in (m c : Nat) (A : Option Addr) (l : List Rl) (s : ByteArray) (a row : Nat) (hs : s.size ≤ 140737488351232) (w : World) (h0 : fitB l = true) (h : TS w m A c l (fun n => rowL n l) l l) (ha : a < s.size) (hr : row < 4) :
  Calls Try.prog 13 #[.pointer (some ⟨m + 2, 0, Option.none⟩), .string s, .int .i64 (a : Int), .int .i64 (row : Int)] w fun e w' => e = .returned (ans (matchGo (build (rowL row l)) (s.data.toList.drop a) 0)) ∧ Below w.heap.size w w' := by
 have hn := trie_none.calls (.pointer (some ⟨m + 2, 0, Option.none⟩)) (some (some l)) w ⟨h0, m, A, c, rfl, h⟩
 have hS := h.steps row hr
 obtain ⟨k, hk, hE⟩ := h.ends row hr
 have hn2 := tree_n row l (fun x hx => ((fit_of h0).2 x hx).2.2.2)
 have hl := (fit_of h0).1
 have hmt := walk_match.calls (m + 4 + 3 * row) (m + 5 + 3 * row) (s.extract a s.size) (build (rowL row l)) k (build_inv _) (by omega) w.drew (hS.move rfl) (hE.move rfl) (by rw [ByteArray.size_extract]; omega)
 have he : (s.extract a s.size).data.toList = s.data.toList.drop a := by
  rw [ByteArray.data_extract, Array.toList_extract, List.extract_eq_take_drop]
  exact List.take_of_length_le (by rw [List.length_drop, Array.length_toList]; exact Nat.le_refl _)
 rw [he] at hmt
 have hcell : ∀ j, w.cell? ⟨m + 2, j, Option.none⟩ = (trieCells A l.length c m)[j]? := fun j => by simp [World.cell?, h.obj]
 have d1 : w.cell? ⟨m + 2, 1 + 2 * row, Option.none⟩ = some (.map (some (m + 4 + 3 * row))) ∧ w.cell? ⟨m + 2, 2 + 2 * row, Option.none⟩ = some (.map (some (m + 5 + 3 * row))) := by
  rw [hcell, hcell]
  obtain rfl | rfl | rfl | rfl : row = 0 ∨ row = 1 ∨ row = 2 ∨ row = 3 := by omega
  all_goals simp [trieCells]
 obtain ⟨d1, d2⟩ := d1
 generalize matchGo (build (rowL row l)) (s.data.toList.drop a) 0 = R at hmt ⊢
 have h1b : decide ((a : Int) < 0) = false := decide_eq_false (by omega)
 have h2b : decide ((a : Int) ≥ (s.size : Int)) = false := decide_eq_false (by omega)
 have h2c : decide ((s.size : Int) ≤ (a : Int)) = false := decide_eq_false (by omega)
 have h3b : decide ((row : Int) < 0) = false := decide_eq_false (by omega)
 have h4b : decide ((row : Int) ≥ 4) = false := decide_eq_false (by omega)
 have h4c : decide (4 ≤ (row : Int)) = false := decide_eq_false (by omega)
 have hal : (a : Int) ≤ (s.size : Int) := by omega
 have hrl : (row : Int) < 4 := by omega
 have Hs := Lib.hid hs
 clear h h0 hS hE hn2 hl he hcell hk hs
 go_enter Try.func13, Try.ntmps13
 go_wp2_with (go_at_call 39; refine hn.mono ?_; rintro e w' ⟨rfl, rfl⟩)
 obtain rfl | rfl | rfl | rfl : row = 0 ∨ row = 1 ∨ row = 2 ∨ row = 3 := by omega
 all_goals
  simp only [Nat.reduceMul, Nat.reduceAdd] at d1 d2 hmt
  go_region_with (go_at_call 40; refine hmt.mono ?_; rintro e w' ⟨rfl, hb⟩)
  go_wp2
  go_ret2
  exact ⟨rfl, bSp (below_drew (Below.refl _ _)) hb⟩
theorem trie_Match.calls (v : Value) (x : Option (Option (List Rl))) (s : ByteArray) (a row : Int) (hs : s.size ≤ 140737488351232) (w : World) (h : TV w v x) :
  Calls Try.prog 13 #[v, .string s, .int .i64 a, .int .i64 row] w fun e w' => e = .returned (ans (matchO x s a row)) ∧ Below w.heap.size w w' := by
 unfold matchO
 by_cases hb : a < 0 ∨ a ≥ (s.size : Int) ∨ row < 0 ∨ row ≥ 4
 ·
  rw [if_pos hb]
  exact (trie_Match.none v x s a row w h (Or.inr hb)).mono fun e w' ⟨h1, h2⟩ => ⟨h1, h2 ▸ Below.refl _ _⟩
 ·
  rw [if_neg hb]
  cases hj : x.join with
  | none => exact (trie_Match.none v x s a row w h (Or.inl hj)).mono fun e w' ⟨h1, h2⟩ => ⟨h1, h2 ▸ Below.refl _ _⟩
  | some l =>
   obtain rfl := made_of hj
   obtain ⟨h0, m, A, c, rfl, h2⟩ := h
   have h3 := trie_Match.in m c A l s a.toNat row.toNat hs w h0 h2 (by omega) (by omega)
   rw [show ((a.toNat : Nat) : Int) = a from by omega, show ((row.toNat : Nat) : Int) = row from by omega] at h3
   exact h3
def signO (x : Option (Option (List Rl))) (s : ByteArray) : ByteArray := ((findO x 8 s).bind fun i => x.join.bind fun l => l[i.toNat]?.map (·.f2)).getD ⟨#[]⟩
theorem lastR_lt (p : Rl → Bool) : ∀ (l : List Rl) (i : Int), lastR p l = some i → 0 ≤ i ∧ i < l.length
 | [], i, h => by cases h
 | x :: l, i, h => by
  unfold lastR at h
  split at h
  ·
   have := Option.some.inj h
   rw [List.length_cons]
   omega
  ·
   have := lastR_lt p l i h
   rw [List.length_cons]
   omega
theorem lastI_lt (p : Rl → Bool) (l : List Rl) (i : Int) (h : lastI p l = some i) : 0 ≤ i ∧ i < l.length := by
 have h2 := lastR_lt p l.reverse i h
 rwa [List.length_reverse] at h2
set_option maxHeartbeats 3200000 in
set_option maxRecDepth 100000 in
theorem trie_Sign.calls (v : Value) (x : Option (Option (List Rl))) (s : ByteArray) (hs : s.size ≤ 140737488351232) (w : World) (h : TV w v x) :
  Calls Try.prog 17 #[v, .string s] w fun e w' => e = .returned (.string (signO x s)) ∧ w' = w := by
 have hf := trie_Find.calls v x 8 s ⟨WalkArith.wf_i64 (by omega), by show s.size ≤ maxLen; unfold maxLen; omega⟩ w h
 unfold ans at hf
 cases ho : findO x 8 s with
 | none =>
  have hr : signO x s = ⟨#[]⟩ := by unfold signO; rw [ho]; rfl
  rw [hr]
  rw [ho] at hf
  clear h ho hr hs
  go_enter Try.func17, Try.ntmps17
  go_wp2_with (go_at_call 15; refine hf.mono ?_; rintro e w' ⟨rfl, rfl⟩)
  go_ret
  exact ⟨rfl, rfl⟩
 | some i =>
  cases hj : x.join with
  | none => unfold findO at ho; rw [hj] at ho; cases ho
  | some l =>
   obtain rfl := made_of hj
   obtain ⟨h0, m, A, c, rfl, h2⟩ := h
   have hil := lastI_lt _ l i (show leftF l (8, s) = some i from ho)
   obtain ⟨y, hy⟩ : ∃ y, l[i.toNat]? = some y := ⟨l[i.toNat]'(by omega), List.getElem?_eq_getElem _⟩
   have hr : signO (some (some l)) s = y.f2 := by
    unfold signO
    rw [ho, Option.bind_some, show (some (some l)).join = some l from rfl, Option.bind_some, hy]
    rfl
   have hrd : rd_T33 l i = y := by simp [rd_T33, hy]
   obtain ⟨ad, e, g0, g1, g2, g3, g4⟩ := at_T33 h2.row i hil.1 hil.2
   rw [hrd] at g0 g1 g2 g3 g4
   cases e
   have h3 : w.cell? ⟨m + 2, 0, none⟩ = some (.slice (some ad) l.length c) := by simp [World.cell?, h2.obj, trieCells]
   have hi0 := hil.1
   have hi1 := hil.2
   have hcap : i ≤ (c : Int) := by have := h2.cap; omega
   rw [hr]
   rw [ho] at hf
   clear h2 h0 ho hr hs hrd hy hil hj
   go_enter Try.func17, Try.ntmps17
   go_wp2_with (go_at_call 15; refine hf.mono ?_; rintro e w' ⟨rfl, rfl⟩)
   go_ret
   exact ⟨rfl, rfl⟩
theorem row_nil (w : World) (c : Nat) : (binOp .eql 22 (.slice none 0 c) (.slice none 0 0)).run Try.prog w = .ok (.bool true) w := by kernel_rfl
theorem row_not_nil (w : World) (a : Addr) (n c : Nat) : (binOp .eql 22 (.slice (some a) n c) (.slice none 0 0)).run Try.prog w = .ok (.bool false) w := by kernel_rfl
set_option maxHeartbeats 3200000 in
set_option maxRecDepth 100000 in
theorem rules_clone.calls (A0 : Option Addr) (c0 : Nat) (l0 : List Rl) (w : World) (hr0 : Kd.C k33 w A0 l0.length l0) (hl : l0.length ≤ 100000) :
  Calls Try.prog 34 #[.slice A0 l0.length c0] w fun e w' => ∃ v, e = .returned v ∧ Kd.R k33 33 w' w.heap.size (fun _ => True) v l0 ∧ Below w.heap.size w w' := by
 cases A0 with
 | none =>
  have h0 : l0 = [] := by
   rcases l0 with _ | ⟨x, l⟩
   ·
    rfl
   ·
    obtain ⟨ad, h, _⟩ := hr0.2.2 (by simp)
    cases h
  subst h0
  have hq := row_nil w c0
  show Calls Try.prog 34 #[.slice none 0 c0] w _
  clear hr0
  go_enter Try.func34, Try.ntmps34
  go_wp2
  go_ret
  exact ⟨_, rfl, Kd.R_nil _ _ _ _ _, Below.refl _ _⟩
 | some ad =>
  have hq := row_not_nil w ad l0.length c0
  have HR := Lib.hid hr0
  clear hr0
  go_enter Try.func34, Try.ntmps34
  have HB := Lib.hid (Below.refl w.heap.size w)
  obtain ⟨y0, hy0⟩ : ∃ y0, y0 = ([] : List Rl) ++ l0 := ⟨_, rfl⟩
  have HY := Lib.hid (show y0 = l0 from hy0)
  clear hy0
  go_wp2_with (first | ((with_reducible refine gate_dst (N := 5) rfl ?_); refine Kd.R_lit k33 _ 33 ?hg (N := 5) ?hd (xs := ([] : List Rl)) (inner := []) (ok := fun _ => True) (okp := fun _ => True) ?hr ?hp (fun _ hk => hk) trivial (Below.refl _ _) (Nat.le_refl _) (by simp) ?_; (case hd => rfl); (case hg => rfl); (case hr => first | (go_simp; done) | (go_simp; rfl)); (case hp => exact (Reps.none _ _)); intro v1 w1 ho1 hb1 hg_ hnew_; clear hg_ hnew_; have HO := Lib.hid ho1; have HB1 := Lib.hid hb1; clear ho1 hb1) | ((with_reducible refine gate_builtin (b := .append) (xs := #[.tmp 5, .tmp 6]) rfl ?_); at_builtin; refine Kd.R_append_rows k33 (w0 := w) w.heap.size rfl (.tmp 5) (.tmp 6) 22 33 (.agg #[(.int .i64 0), (.string ⟨#[]⟩), (.string ⟨#[]⟩), (.int .i64 0), (.int .i64 0)]) 56 rfl Try.underlying22 info33 rfl (by decide) (by omega) v1 ([] : List Rl) l0 _ _ _ (fun _ => True) (fun _ => False) rfl rfl ?aO ?aR (fun _ _ h => h) (fun _ h => h.elim) ?aF ?aB ?aS ?aL ?_; (case aR => exact Kd.C_below HR.out HB1.out); (case aB => exact HB1.out); (case aF => exact (fun _ _ => trivial)); (case aO => exact HO.out); (case aS => exact HB1.out.size); (case aL => simp; omega); intro v2 w2 ho hb hg hat; have HO2 := Lib.hid ho; have HB2 := Lib.hid hb; clear ho hb hg hat; obtain ⟨Ao, co, eo⟩ := Kd.R_slice HO2.out; subst eo))
  go_ret
  exact ⟨_, rfl, HO2.out, HB2.out⟩
set_option maxHeartbeats 3200000 in
set_option maxRecDepth 100000 in
theorem trie_Rules.calls (v : Value) (x : Option (Option (List Rl))) (w : World) (h : TV w v x) :
  Calls Try.prog 24 #[v] w fun e w' => ∃ u, e = .returned u ∧ Kd.R k33 33 w' w.heap.size (fun _ => True) u (x.join.getD []) ∧ Below w.heap.size w w' := by
 have hn := trie_none.calls v x w h
 cases hj : x.join with
 | none =>
  rw [hj] at hn
  clear h hj
  go_enter Try.func24, Try.ntmps24
  go_wp2_with (go_at_call 39; refine hn.mono ?_; rintro e w' ⟨rfl, rfl⟩)
  go_ret
  exact ⟨_, rfl, Kd.R_nil _ _ _ _ _, Below.refl _ _⟩
 | some l =>
  obtain rfl := made_of hj
  obtain ⟨h0, m, A, c, rfl, h2⟩ := h
  have h3 : w.cell? ⟨m + 2, 0, none⟩ = some (.slice A l.length c) := by simp [World.cell?, h2.obj, trieCells]
  have hc := rules_clone.calls A c l w h2.row (by have := (fit_of h0).1; omega)
  clear h2 h0 hj
  go_enter Try.func24, Try.ntmps24
  go_wp2_with (first | (go_at_call 39; refine hn.mono ?_; rintro e w' ⟨rfl, rfl⟩) | (go_at_call 34; refine hc.mono ?_; rintro e w2 ⟨u, rfl, hu, hb⟩; have HU := Lib.hid hu; have HB := Lib.hid hb; clear hu hb))
  go_ret
  exact ⟨_, rfl, HU.out, HB.out⟩
end Go.Proofs.Ytbpbniemjjhecaa.G
