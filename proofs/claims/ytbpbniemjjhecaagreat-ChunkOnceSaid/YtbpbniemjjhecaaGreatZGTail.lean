import Derived.Test.YtbpbniemjjhecaaGreatZGTriePut
import Derived.Test.YtbpbniemjjhecaaGreatZGChkTable
import Derived.Test.YtbpbniemjjhecaaGreatZPureChkClash
section
namespace Go.Proofs.YtbpbniemjjhecaaGreat.G
set_option linter.unusedVariables false
set_option linter.unusedSimpArgs false
open Go.RowKit Go.Maps Go.Proofs.YtbpbniemjjhecaaGreat.GM Go.Proofs.YtbpbniemjjhecaaGreat.GT Go.Proofs.YtbpbniemjjhecaaGreat.PChk Go.Proofs.YtbpbniemjjhecaaGreat.PureC Go.Proofs.YtbpbniemjjhecaaGreatW.PrintWords Go.Proofs.YtbpbniemjjhecaaGreatW.PrintLast Go.Proofs.YtbpbniemjjhecaaGreatW.PrintMore
def rowR (n : Int) : List Rl → List (List UInt8 × Int)
 | [] => []
 | x :: r => if inB x.f0 n = true then rowR n r ++ [(x.f2.data.toList, (r.length : Int))] else rowR n r
def rowL (n : Int) (l : List Rl) : List (List UInt8 × Int) := rowR n l.reverse
theorem rowL_snoc (n : Int) (l : List Rl) (x : Rl) : rowL n (l ++ [x]) = if inB x.f0 n = true then rowL n l ++ [(x.f2.data.toList, (l.length : Int))] else rowL n l := by simp [rowL, rowR]
def lastR (p : Rl → Bool) : List Rl → Option Int
 | [] => none
 | x :: r => if p x = true then some (r.length : Int) else lastR p r
def lastI (p : Rl → Bool) (l : List Rl) : Option Int := lastR p l.reverse
theorem lastI_snoc (p : Rl → Bool) (l : List Rl) (x : Rl) : lastI p (l ++ [x]) = if p x = true then some (l.length : Int) else lastI p l := by simp [lastI, lastR]
def wordP (c : ByteArray) (x : Rl) : Bool := decide (x.f0 = 5) && decide (x.f2 = c)
def wordF (l : List Rl) (c : ByteArray) : Option Int := lastI (wordP c) l
def leftP (j : Int × ByteArray) (x : Rl) : Bool := decide ((x.f0, x.f1) = j)
def leftF (l : List Rl) (j : Int × ByteArray) : Option Int := lastI (leftP j) l
theorem rowR_len (n : Int) : ∀ l : List Rl, (rowR n l).length ≤ l.length
 | [] => Nat.le_refl _
 | x :: l => by
  have h := rowR_len n l
  unfold rowR
  split
  ·
   rw [List.length_append, List.length_singleton, List.length_cons]; omega
  ·
   rw [List.length_cons]; omega
theorem rowL_len (n : Int) (l : List Rl) : (rowL n l).length ≤ l.length := by
 have h := rowR_len n l.reverse
 rwa [List.length_reverse] at h
theorem rowR_sum (n : Int) : ∀ l : List Rl, (∀ x ∈ l, x.f2.size ≤ 50) → ((rowR n l).map fun p => p.1.length).sum ≤ 50 * l.length
 | [], _ => Nat.le_refl _
 | x :: l, hx => by
  have h := rowR_sum n l (fun y hy => hx y (List.mem_cons_of_mem _ hy))
  have h2 := hx x List.mem_cons_self
  have e : x.f2.data.toList.length = x.f2.size := by rw [Array.length_toList]; rfl
  unfold rowR
  split
  ·
   simp only [List.map_append, List.map_cons, List.map_nil, List.sum_append, List.sum_cons, List.sum_nil, List.length_cons]; omega
  ·
   rw [List.length_cons]; omega
theorem tree_n (n : Int) (l : List Rl) (h : ∀ x ∈ l, x.f2.size ≤ 50) : (build (rowL n l)).n ≤ 50 * l.length := by
 have h1 := build_n (rowL n l)
 have h2 := rowR_sum n l.reverse (fun x hx => h x (List.mem_reverse.1 hx))
 rw [List.length_reverse] at h2
 exact Nat.le_trans h1 h2
def fitB (l : List Rl) : Bool := decide (l.length ≤ 450) && l.all fun x => decide (1 ≤ x.f0) && decide (x.f0 ≤ 8) && decide (x.f1.size ≤ 50) && decide (x.f2.size ≤ 50)
theorem fit_of {l : List Rl} (h : fitB l = true) : l.length ≤ 450 ∧ ∀ x ∈ l, 1 ≤ x.f0 ∧ x.f0 ≤ 8 ∧ x.f1.size ≤ 50 ∧ x.f2.size ≤ 50 := by
 unfold fitB at h
 simp only [Bool.and_eq_true, decide_eq_true_eq, List.all_eq_true] at h
 exact ⟨h.1, fun x hx => by have := h.2 x hx; exact ⟨this.1.1.1, this.1.1.2, this.1.2, this.2⟩⟩
def trieCells (A : Option Addr) (n c m : Nat) : Array Value := #[.slice A n c, .map (some (m + 4)), .map (some (m + 5)), .map (some (m + 7)), .map (some (m + 8)), .map (some (m + 10)), .map (some (m + 11)), .map (some (m + 13)), .map (some (m + 14)), .map (some m), .map (some (m + 1))]
structure TS (w : World) (m : Nat) (A : Option Addr) (c : Nat) (l : List Rl) (F : Nat → List (List UInt8 × Int)) (LW LL : List Rl) : Prop where
 obj : w.heap[m + 2]? = some (.cells (trieCells A l.length c m) 73)
 row : Kd.C k50 w A l.length l
 cap : l.length ≤ c
 steps : ∀ n, n < 4 → Steps w (m + 4 + 3 * n) (build (F n)).st (build (F n)).n
 ends : ∀ n, n < 4 → ∃ k, k ≤ (F n).length ∧ Ends w (m + 5 + 3 * n) (build (F n)).en k
 words : ∃ k, k ≤ LW.length ∧ Words w m (wordF LW) k
 lefts : ∃ k, k ≤ LL.length ∧ Lefts w (m + 1) (leftF LL) k
theorem TS.below {w w' : World} {m c : Nat} {A : Option Addr} {l LW LL : List Rl} {F : Nat → List (List UInt8 × Int)} (h : TS w m A c l F LW LL) (hb : Below w.heap.size w w') : TS w' m A c l F LW LL := by
 have mv : ∀ {k : Nat}, k < w.heap.size → w'.heap[k]? = w.heap[k]? := fun {k} hk => hb.block k hk
 refine ⟨(mv (Array.getElem?_eq_some_iff.1 h.obj).1).trans h.obj, Kd.C_below h.row hb, h.cap, fun n hn => (h.steps n hn).move (mv (MapI.lt (h.steps n hn))), fun n hn => ?_, ?_, ?_⟩
 ·
  obtain ⟨k, hk, he⟩ := h.ends n hn
  exact ⟨k, hk, he.move (mv (MapI.lt he))⟩
 ·
  obtain ⟨k, hk, he⟩ := h.words
  exact ⟨k, hk, MapI.move he (mv (MapI.lt he))⟩
 ·
  obtain ⟨k, hk, he⟩ := h.lefts
  exact ⟨k, hk, MapI.move he (mv (MapI.lt he))⟩
def TV (w : World) (v : Value) : Option (Option (List Rl)) → Prop
 | none => v = .pointer none
 | some none => ∃ b, v = .pointer (some ⟨b, 0, none⟩) ∧ w.cell? ⟨b, 9, none⟩ = some (.map none)
 | some (some l) => fitB l = true ∧ ∃ m A c, v = .pointer (some ⟨m + 2, 0, none⟩) ∧ TS w m A c l (fun n => rowL n l) l l
theorem TV.below {w w' : World} {v : Value} {x : Option (Option (List Rl))} (h : TV w v x) (hb : Below w.heap.size w w') : TV w' v x := by
 match x, h with
 | none, h => exact h
 | some none, ⟨b, h1, h2⟩ => exact ⟨b, h1, (hb.cell (World.block_lt_of_cell? w _ h2)).trans h2⟩
 | some (some l), ⟨h0, m, A, c, h1, h2⟩ => exact ⟨h0, m, A, c, h1, h2.below hb⟩
theorem map_nil (w : World) : (binOp .eql 65 (.map none) (.map none)).run Tryz.prog w = .ok (.bool true) w := by kernel_rfl
theorem map_not_nil (w : World) (m : Nat) : (binOp .eql 65 (.map (some m)) (.map none)).run Tryz.prog w = .ok (.bool false) w := by kernel_rfl
set_option maxHeartbeats 1600000 in
set_option maxRecDepth 100000 in
theorem trie_none.calls (v : Value) (x : Option (Option (List Rl))) (w : World) (h : TV w v x) :
  Calls Tryz.prog 85 #[v] w fun e w' => e = .returned (.bool x.join.isNone) ∧ w' = w := by
 match x, h with
 | none, h =>
  obtain rfl := h
  go_enter Tryz.func85, Tryz.ntmps85
  go_wp2
  go_ret
  exact ⟨rfl, rfl⟩
 | some none, ⟨b, h1, h2⟩ =>
  obtain rfl := h1
  have hmap := map_nil w
  go_enter Tryz.func85, Tryz.ntmps85
  go_wp2
  go_ret
  exact ⟨rfl, rfl⟩
 | some (some l), ⟨h0, m, A, c, h1, h2⟩ =>
  obtain rfl := h1
  have h3 : w.cell? ⟨m + 2, 9, none⟩ = some (.map (some m)) := by simp [World.cell?, h2.obj, trieCells]
  have hmap := map_not_nil w m
  clear h2 h0
  go_enter Tryz.func85, Tryz.ntmps85
  go_wp2
  go_ret
  exact ⟨rfl, rfl⟩
def ans (o : Option Int) : Value := .tuple #[.int .i64 (o.getD 0), .bool o.isSome]
theorem words_look {w : World} {b m : Nat} {f : ByteArray → Option Int} (h : Words w b f m) (s : ByteArray) (hs : s.size ≤ maxLen) :
  (Instr.lookup 65 (.map (some b)) (.string s) true).run Tryz.prog w = .ok (ans (f s)) w := (MapI.look h textK s hs Tryz.underlying65 Tryz.underlying3 (zero_int w)).1
theorem lefts_look {w : World} {b m : Nat} {f : Int × ByteArray → Option Int} (h : Lefts w b f m) (a : Int) (s : ByteArray) (ha : sideOk (a, s)) :
  (Instr.lookup 66 (.map (some b)) (.agg #[.int .i64 a, .string s]) true).run Tryz.prog w = .ok (ans (f (a, s))) w := (MapI.look h sideK (a, s) ha Tryz.underlying66 Tryz.underlying3 (zero_int w)).1
def wordO (x : Option (Option (List Rl))) (s : ByteArray) : Option Int := x.join.bind fun l => wordF l s
def findO (x : Option (Option (List Rl))) (a : Int) (s : ByteArray) : Option Int := x.join.bind fun l => leftF l (a, s)
def matchO (x : Option (Option (List Rl))) (s : ByteArray) (at_ row : Int) : Option Int := if at_ < 0 ∨ at_ ≥ (s.size : Int) ∨ row < 0 ∨ row ≥ 4 then none else x.join.bind fun l => matchGo (build (rowL row l)) (s.data.toList.drop at_.toNat) 0
set_option maxHeartbeats 1600000 in
set_option maxRecDepth 100000 in
theorem trie_Word.calls (v : Value) (x : Option (Option (List Rl))) (s : ByteArray) (hs : s.size ≤ 140737488351232) (w : World) (h : TV w v x) :
  Calls Tryz.prog 84 #[v, .string s] w fun e w' => e = .returned (ans (wordO x s)) ∧ w' = w := by
 have hn := trie_none.calls v x w h
 generalize hj : x.join = j at hn
 cases j with
 | none =>
  have hr : wordO x s = none := by unfold wordO; rw [hj]; rfl
  rw [hr]
  clear h hj hr
  go_enter Tryz.func84, Tryz.ntmps84
  go_wp2_with fail
  go_at_call 85
  refine hn.mono ?_
  rintro e w' ⟨rfl, rfl⟩
  go_wp2
  go_ret2
  exact ⟨rfl, rfl⟩
 | some l =>
  have hr : wordO x s = wordF l s := by unfold wordO; rw [hj]; rfl
  obtain rfl : x = some (some l) := by cases x with | none => cases hj | some y => cases y with | none => cases hj | some z => cases hj; rfl
  obtain ⟨h0, m, A, c, rfl, h2⟩ := h
  obtain ⟨k, hk, hW⟩ := h2.words
  have hlk := words_look hW s (by unfold maxLen; omega)
  have h3 : w.cell? ⟨m + 2, 9, none⟩ = some (.map (some m)) := by simp [World.cell?, h2.obj, trieCells]
  rw [hr]
  unfold ans at hlk
  obtain ⟨o, ho⟩ : ∃ o, wordF l s = o := ⟨_, rfl⟩
  rw [ho] at hlk ⊢
  clear h2 h0 hW hj hr ho
  go_enter Tryz.func84, Tryz.ntmps84
  go_wp2_with fail
  go_at_call 85
  refine hn.mono ?_
  rintro e w' ⟨rfl, rfl⟩
  go_wp2
  go_ret2
  exact ⟨rfl, rfl⟩
set_option maxHeartbeats 1600000 in
set_option maxRecDepth 100000 in
theorem trie_Find.calls (v : Value) (x : Option (Option (List Rl))) (a : Int) (s : ByteArray) (ha : sideOk (a, s)) (w : World) (h : TV w v x) :
  Calls Tryz.prog 40 #[v, .int .i64 a, .string s] w fun e w' => e = .returned (ans (findO x a s)) ∧ w' = w := by
 have hn := trie_none.calls v x w h
 generalize hj : x.join = j at hn
 cases j with
 | none =>
  have hr : findO x a s = none := by unfold findO; rw [hj]; rfl
  rw [hr]
  clear h hj hr ha
  go_enter Tryz.func40, Tryz.ntmps40
  go_wp2_with fail
  go_at_call 85
  refine hn.mono ?_
  rintro e w' ⟨rfl, rfl⟩
  go_wp2
  go_ret2
  exact ⟨rfl, rfl⟩
 | some l =>
  have hr : findO x a s = leftF l (a, s) := by unfold findO; rw [hj]; rfl
  obtain rfl : x = some (some l) := by cases x with | none => cases hj | some y => cases y with | none => cases hj | some z => cases hj; rfl
  obtain ⟨h0, m, A, c, rfl, h2⟩ := h
  obtain ⟨k, hk, hW⟩ := h2.lefts
  have hlk := lefts_look hW a s ha
  have h3 : w.cell? ⟨m + 2, 10, none⟩ = some (.map (some (m + 1))) := by simp [World.cell?, h2.obj, trieCells]
  rw [hr]
  unfold ans at hlk
  obtain ⟨o, ho⟩ : ∃ o, leftF l (a, s) = o := ⟨_, rfl⟩
  rw [ho] at hlk ⊢
  clear h2 h0 hW hj hr ho ha
  go_enter Tryz.func40, Tryz.ntmps40
  go_wp2_with fail
  go_at_call 85
  refine hn.mono ?_
  rintro e w' ⟨rfl, rfl⟩
  go_wp2
  go_ret2
  exact ⟨rfl, rfl⟩
end Go.Proofs.YtbpbniemjjhecaaGreat.G
end
section
namespace Go.Proofs.YtbpbniemjjhecaaGreat.G
set_option linter.unusedVariables false
set_option linter.unusedSimpArgs false
open Go.RowKit Go.Maps Go.Proofs.YtbpbniemjjhecaaGreat.GM Go.Proofs.YtbpbniemjjhecaaGreat.GT Go.Proofs.YtbpbniemjjhecaaGreat.PChk Go.Proofs.YtbpbniemjjhecaaGreat.PureC Go.Proofs.YtbpbniemjjhecaaGreatW.PrintWords Go.Proofs.YtbpbniemjjhecaaGreatW.PrintLast Go.Proofs.YtbpbniemjjhecaaGreatW.PrintMore
theorem made_of {x : Option (Option (List Rl))} {l : List Rl} (h : x.join = some l) : x = some (some l) := by
 cases x with
 | none => cases h
 | some y => cases y with
  | none => cases h
  | some z => cases h; rfl
def signO (x : Option (Option (List Rl))) (s : ByteArray) : ByteArray := ((findO x 8 s).bind fun i => x.join.bind fun l => l[i.toNat]?.map (·.f2)).getD ⟨#[]⟩
theorem lastR_lt (p : Rl → Bool) : ∀ (l : List Rl) (i : Int), lastR p l = some i → 0 ≤ i ∧ i < l.length
 | [], i, h => by cases h
 | x :: l, i, h => by
  unfold lastR at h
  split at h
  ·
   have := Option.some.inj h
   rw [List.length_cons]
   omega
  ·
   have := lastR_lt p l i h
   rw [List.length_cons]
   omega
theorem lastI_lt (p : Rl → Bool) (l : List Rl) (i : Int) (h : lastI p l = some i) : 0 ≤ i ∧ i < l.length := by
 have h2 := lastR_lt p l.reverse i h
 rwa [List.length_reverse] at h2
set_option maxHeartbeats 3200000 in
set_option maxRecDepth 100000 in
theorem trie_Sign.calls (v : Value) (x : Option (Option (List Rl))) (s : ByteArray) (hs : s.size ≤ 140737488351232) (w : World) (h : TV w v x) :
  Calls Tryz.prog 83 #[v, .string s] w fun e w' => e = .returned (.string (signO x s)) ∧ w' = w := by
 have hf := trie_Find.calls v x 8 s ⟨WalkArith.wf_i64 (by omega), by show s.size ≤ maxLen; unfold maxLen; omega⟩ w h
 unfold ans at hf
 cases ho : findO x 8 s with
 | none =>
  have hr : signO x s = ⟨#[]⟩ := by unfold signO; rw [ho]; rfl
  rw [hr]
  rw [ho] at hf
  clear h ho hr hs
  go_enter Tryz.func83, Tryz.ntmps83
  go_wp2_with (go_at_call 40; refine hf.mono ?_; rintro e w' ⟨rfl, rfl⟩)
  go_ret
  exact ⟨rfl, rfl⟩
 | some i =>
  cases hj : x.join with
  | none => unfold findO at ho; rw [hj] at ho; cases ho
  | some l =>
   obtain rfl := made_of hj
   obtain ⟨h0, m, A, c, rfl, h2⟩ := h
   have hil := lastI_lt _ l i (show leftF l (8, s) = some i from ho)
   obtain ⟨y, hy⟩ : ∃ y, l[i.toNat]? = some y := ⟨l[i.toNat]'(by omega), List.getElem?_eq_getElem _⟩
   have hr : signO (some (some l)) s = y.f2 := by
    unfold signO
    rw [ho, Option.bind_some, show (some (some l)).join = some l from rfl, Option.bind_some, hy]
    rfl
   have hrd : rd_T50 l i = y := by simp [rd_T50, hy]
   obtain ⟨ad, e, g0, g1, g2, g3, g4⟩ := at_T50 h2.row i hil.1 hil.2
   rw [hrd] at g0 g1 g2 g3 g4
   cases e
   have h3 : w.cell? ⟨m + 2, 0, none⟩ = some (.slice (some ad) l.length c) := by simp [World.cell?, h2.obj, trieCells]
   have hi0 := hil.1
   have hi1 := hil.2
   have hcap : i ≤ (c : Int) := by have := h2.cap; omega
   rw [hr]
   rw [ho] at hf
   clear h2 h0 ho hr hs hrd hy hil hj
   go_enter Tryz.func83, Tryz.ntmps83
   go_wp2_with (go_at_call 40; refine hf.mono ?_; rintro e w' ⟨rfl, rfl⟩)
   go_ret
   exact ⟨rfl, rfl⟩
theorem row_nil (w : World) (c : Nat) : (binOp .eql 22 (.slice none 0 c) (.slice none 0 0)).run Tryz.prog w = .ok (.bool true) w := by kernel_rfl
theorem row_not_nil (w : World) (a : Addr) (n c : Nat) : (binOp .eql 22 (.slice (some a) n c) (.slice none 0 0)).run Tryz.prog w = .ok (.bool false) w := by kernel_rfl
set_option maxHeartbeats 3200000 in
set_option maxRecDepth 100000 in
theorem rules_clone.calls (A0 : Option Addr) (c0 : Nat) (l0 : List Rl) (w : World) (hr0 : Kd.C k50 w A0 l0.length l0) (hl : l0.length ≤ 100000) :
  Calls Tryz.prog 35 #[.slice A0 l0.length c0] w fun e w' => ∃ v, e = .returned v ∧ Kd.R k50 50 w' w.heap.size (fun _ => True) v l0 ∧ Below w.heap.size w w' := by
 cases A0 with
 | none =>
  have h0 : l0 = [] := by
   rcases l0 with _ | ⟨x, l⟩
   ·
    rfl
   ·
    obtain ⟨ad, h, _⟩ := hr0.2.2 (by simp)
    cases h
  subst h0
  have hq := row_nil w c0
  show Calls Tryz.prog 35 #[.slice none 0 c0] w _
  clear hr0
  go_enter Tryz.func35, Tryz.ntmps35
  go_wp2
  go_ret
  exact ⟨_, rfl, Kd.R_nil _ _ _ _ _, Below.refl _ _⟩
 | some ad =>
  have hq := row_not_nil w ad l0.length c0
  have HR := Lib.hid hr0
  clear hr0
  go_enter Tryz.func35, Tryz.ntmps35
  have HB := Lib.hid (Below.refl w.heap.size w)
  obtain ⟨y0, hy0⟩ : ∃ y0, y0 = ([] : List Rl) ++ l0 := ⟨_, rfl⟩
  have HY := Lib.hid (show y0 = l0 from hy0)
  clear hy0
  go_wp2_with (first | ((with_reducible refine gate_dst (N := 5) rfl ?_); refine Kd.R_lit k50 _ 50 ?hg (N := 5) ?hd (xs := ([] : List Rl)) (inner := []) (ok := fun _ => True) (okp := fun _ => True) ?hr ?hp (fun _ hk => hk) trivial (Below.refl _ _) (Nat.le_refl _) (by simp) ?_; (case hd => rfl); (case hg => rfl); (case hr => first | (go_simp; done) | (go_simp; rfl)); (case hp => exact (Reps.none _ _)); intro v1 w1 ho1 hb1 hg_ hnew_; clear hg_ hnew_; have HO := Lib.hid ho1; have HB1 := Lib.hid hb1; clear ho1 hb1) | ((with_reducible refine gate_builtin (b := .append) (xs := #[.tmp 5, .tmp 6]) rfl ?_); at_builtin; refine Kd.R_append_rows k50 (w0 := w) w.heap.size rfl (.tmp 5) (.tmp 6) 22 50 (.agg #[(.int .i64 0), (.string ⟨#[]⟩), (.string ⟨#[]⟩), (.int .i64 0), (.int .i64 0)]) 56 rfl Tryz.underlying22 info50 rfl (by decide) (by omega) v1 ([] : List Rl) l0 _ _ _ (fun _ => True) (fun _ => False) rfl rfl ?aO ?aR (fun _ _ h => h) (fun _ h => h.elim) ?aF ?aB ?aS ?aL ?_; (case aR => exact Kd.C_below HR.out HB1.out); (case aB => exact HB1.out); (case aF => exact (fun _ _ => trivial)); (case aO => exact HO.out); (case aS => exact HB1.out.size); (case aL => simp; omega); intro v2 w2 ho hb hg hat; have HO2 := Lib.hid ho; have HB2 := Lib.hid hb; clear ho hb hg hat; obtain ⟨Ao, co, eo⟩ := Kd.R_slice HO2.out; subst eo))
  go_ret
  exact ⟨_, rfl, HO2.out, HB2.out⟩
set_option maxHeartbeats 3200000 in
set_option maxRecDepth 100000 in
theorem trie_Rules.calls (v : Value) (x : Option (Option (List Rl))) (w : World) (h : TV w v x) :
  Calls Tryz.prog 59 #[v] w fun e w' => ∃ u, e = .returned u ∧ Kd.R k50 50 w' w.heap.size (fun _ => True) u (x.join.getD []) ∧ Below w.heap.size w w' := by
 have hn := trie_none.calls v x w h
 cases hj : x.join with
 | none =>
  rw [hj] at hn
  clear h hj
  go_enter Tryz.func59, Tryz.ntmps59
  go_wp2_with (go_at_call 85; refine hn.mono ?_; rintro e w' ⟨rfl, rfl⟩)
  go_ret
  exact ⟨_, rfl, Kd.R_nil _ _ _ _ _, Below.refl _ _⟩
 | some l =>
  obtain rfl := made_of hj
  obtain ⟨h0, m, A, c, rfl, h2⟩ := h
  have h3 : w.cell? ⟨m + 2, 0, none⟩ = some (.slice A l.length c) := by simp [World.cell?, h2.obj, trieCells]
  have hc := rules_clone.calls A c l w h2.row (by have := (fit_of h0).1; omega)
  clear h2 h0 hj
  go_enter Tryz.func59, Tryz.ntmps59
  go_wp2_with (first | (go_at_call 85; refine hn.mono ?_; rintro e w' ⟨rfl, rfl⟩) | (go_at_call 35; refine hc.mono ?_; rintro e w2 ⟨u, rfl, hu, hb⟩; have HU := Lib.hid hu; have HB := Lib.hid hb; clear hu hb))
  go_ret
  exact ⟨_, rfl, HU.out, HB.out⟩
end Go.Proofs.YtbpbniemjjhecaaGreat.G
end
section
namespace Go.Proofs.YtbpbniemjjhecaaGreat.G
set_option linter.unusedVariables false
open Go.RowKit Go.Maps Go.Proofs.YtbpbniemjjhecaaGreat.GM Go.Proofs.YtbpbniemjjhecaaGreat.GT Go.Proofs.YtbpbniemjjhecaaGreat.PChk Go.Proofs.YtbpbniemjjhecaaGreatW.PrintWords Go.Proofs.YtbpbniemjjhecaaGreatW.PrintLast Go.Proofs.YtbpbniemjjhecaaGreatW.PrintMore
structure Tr where
 v : Value
 x : Option (Option (List Rl))
def Tr.Is (w : World) (t : Tr) : Prop := TV w t.v t.x
def Tr.none : Tr := ⟨.pointer .none, .none⟩
theorem Tr.none_is (w : World) : Tr.Is w Tr.none := rfl
theorem Tr.Is.below {w w1 : World} {t : Tr} (h : Tr.Is w t) (hb : Below w.heap.size w w1) : Tr.Is w1 t := TV.below h hb
theorem wf_i64 (a : Int) (h : -9223372036854775808 ≤ a ∧ a ≤ 9223372036854775807) : (Lit.int .i64 a).wf = true := WalkArith.wf_i64 (by omega)
def trie_Trie_Find.f (t : Tr) (a : Int) (s : ByteArray) : Option (Int × Bool) := if (-9223372036854775808 ≤ a ∧ a ≤ 9223372036854775807) ∧ s.size ≤ 140737488351232 then some ((findO t.x a s).getD 0, (findO t.x a s).isSome) else .none
theorem trie_Trie_Find.calls (a0 : Tr) (a1 : Int) (a2 : ByteArray) (r0 : Int) (r1 : Bool) (w : World) (hT0 : Tr.Is w a0) (h : trie_Trie_Find.f a0 a1 a2 = some (r0, r1)) :
  Calls Tryz.prog 40 #[a0.v, .int .i64 a1, .string a2] w fun e w' => e = .returned (.tuple #[.int .i64 r0, .bool r1]) ∧ Drawn0 w w' := by
 unfold trie_Trie_Find.f at h
 split at h
 ·
  rename_i hb
  obtain ⟨rfl, rfl⟩ := Prod.mk.inj (Option.some.inj h)
  exact (trie_Find.calls a0.v a0.x a1 a2 ⟨wf_i64 a1 hb.1, by show a2.size ≤ maxLen; unfold maxLen; omega⟩ w hT0).mono fun e w' ⟨h1, h2⟩ => ⟨h1, by rw [h2]; exact Drawn0.refl w⟩
 ·
  cases h
def trie_Trie_Word.f (t : Tr) (s : ByteArray) : Option (Int × Bool) := if s.size ≤ 140737488351232 then some ((wordO t.x s).getD 0, (wordO t.x s).isSome) else .none
theorem trie_Trie_Word.calls (a0 : Tr) (a1 : ByteArray) (r0 : Int) (r1 : Bool) (w : World) (hT0 : Tr.Is w a0) (h : trie_Trie_Word.f a0 a1 = some (r0, r1)) :
  Calls Tryz.prog 84 #[a0.v, .string a1] w fun e w' => e = .returned (.tuple #[.int .i64 r0, .bool r1]) ∧ Drawn0 w w' := by
 unfold trie_Trie_Word.f at h
 split at h
 ·
  rename_i hb
  obtain ⟨rfl, rfl⟩ := Prod.mk.inj (Option.some.inj h)
  exact (trie_Word.calls a0.v a0.x a1 hb w hT0).mono fun e w' ⟨h1, h2⟩ => ⟨h1, by rw [h2]; exact Drawn0.refl w⟩
 ·
  cases h
def trie_Trie_Sign.f (t : Tr) (s : ByteArray) : Option ByteArray := if s.size ≤ 140737488351232 then some (signO t.x s) else .none
theorem trie_Trie_Sign.calls (a0 : Tr) (a1 : ByteArray) (r : ByteArray) (w : World) (hT0 : Tr.Is w a0) (h : trie_Trie_Sign.f a0 a1 = some r) :
  Calls Tryz.prog 83 #[a0.v, .string a1] w fun e w' => e = .returned (.string r) ∧ Drawn0 w w' := by
 unfold trie_Trie_Sign.f at h
 split at h
 ·
  rename_i hb
  obtain rfl := Option.some.inj h
  exact (trie_Sign.calls a0.v a0.x a1 hb w hT0).mono fun e w' ⟨h1, h2⟩ => ⟨h1, by rw [h2]; exact Drawn0.refl w⟩
 ·
  cases h
def trie_Trie_Rules.f (t : Tr) : Option (List Rl) := some (t.x.join.getD [])
theorem trie_Trie_Rules.calls (a0 : Tr) (r : List Rl) (w : World) (hT0 : Tr.Is w a0) (h : trie_Trie_Rules.f a0 = some r) :
  Calls Tryz.prog 59 #[a0.v] w fun e w' => ∃ v0_ : Value, e = .returned v0_ ∧ Kd.R k50 50 w' w.heap.size (fun _ => True) v0_ r ∧ Below w.heap.size w w' := by
 obtain rfl := Option.some.inj h
 exact trie_Rules.calls a0.v a0.x w hT0
end Go.Proofs.YtbpbniemjjhecaaGreat.G
end
section
namespace Go.Proofs.YtbpbniemjjhecaaGreat.G
set_option linter.unusedVariables false
open Go.RowKit Go.Proofs.YtbpbniemjjhecaaGreatW.PrintWords Go.Proofs.YtbpbniemjjhecaaGreatW.PrintLast Go.Proofs.YtbpbniemjjhecaaGreatW.PrintMore
theorem wp_rebase {P : Program} {fn : Func} {c : Code} {v : Value} {w0 w : World} {a : Act} (hb : Below w0.heap.size w0 w)
  (h : c.wp P (bodyPost P fn (fun e w' => e = .returned v ∧ Below w.heap.size w w')) a w) : c.wp P (bodyPost P fn (fun e w' => e = .returned v ∧ Below w0.heap.size w0 w')) a w := by
 refine Code.wp_mono (fun e a' w' hq => ?_) h
 cases e with
 | normal => exact ⟨hq.1, hq.2.imp fun v' h' => ⟨h'.1, h'.2.1, bSp hb h'.2.2⟩⟩
 | ret => exact ⟨hq.1, hq.2.imp fun v' h' => ⟨h'.1, h'.2.1, bSp hb h'.2.2⟩⟩
 | panic chain => exact ⟨hq.1, hq.2.1, bSp hb hq.2.2⟩
 | outgrown => exact ⟨hq.1, bSp hb hq.2⟩
 | exit id => exact hq
 | goto l => exact hq
end Go.Proofs.YtbpbniemjjhecaaGreat.G
end
