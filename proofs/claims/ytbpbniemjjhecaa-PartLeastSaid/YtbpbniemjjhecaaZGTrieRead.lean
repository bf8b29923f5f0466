import Derived.Test.YtbpbniemjjhecaaZGTriePut
import Derived.Test.YtbpbniemjjhecaaZGChkTable
import Derived.Test.YtbpbniemjjhecaaZPureChkClash
namespace Go.Proofs.Ytbpbniemjjhecaa.G
set_option linter.unusedVariables false
set_option linter.unusedSimpArgs false
open Go.RowKit Go.Maps Go.Proofs.Ytbpbniemjjhecaa.GM Go.Proofs.Ytbpbniemjjhecaa.GT Go.Proofs.Ytbpbniemjjhecaa.PChk Go.Proofs.Ytbpbniemjjhecaa.PureC Go.Proofs.YtbpbniemjjhecaaW.PrintWords Go.Proofs.YtbpbniemjjhecaaW.PrintLast Go.Proofs.YtbpbniemjjhecaaW.PrintMore
def rowR (n : Int) : List Rl → List (List UInt8 × Int)
 | [] => []
 | x :: r => if inB x.f0 n = true then rowR n r ++ [(x.f2.data.toList, (r.length : Int))] else rowR n r
def rowL (n : Int) (l : List Rl) : List (List UInt8 × Int) := rowR n l.reverse
theorem rowL_snoc (n : Int) (l : List Rl) (x : Rl) : rowL n (l ++ [x]) = if inB x.f0 n = true then rowL n l ++ [(x.f2.data.toList, (l.length : Int))] else rowL n l := by simp [rowL, rowR]
def lastR (p : Rl → Bool) : List Rl → Option Int
 | [] => none
 | x :: r => if p x = true then some (r.length : Int) else lastR p r
def lastI (p : Rl → Bool) (l : List Rl) : Option Int := lastR p l.reverse
theorem lastI_snoc (p : Rl → Bool) (l : List Rl) (x : Rl) : lastI p (l ++ [x]) = if p x = true then some (l.length : Int) else lastI p l := by simp [lastI, lastR]
def wordP (c : ByteArray) (x : Rl) : Bool := decide (x.f0 = 5) && decide (x.f2 = c)
def wordF (l : List Rl) (c : ByteArray) : Option Int := lastI (wordP c) l
def leftP (j : Int × ByteArray) (x : Rl) : Bool := decide ((x.f0, x.f1) = j)
def leftF (l : List Rl) (j : Int × ByteArray) : Option Int := lastI (leftP j) l
theorem rowR_len (n : Int) : ∀ l : List Rl, (rowR n l).length ≤ l.length
 | [] => Nat.le_refl _
 | x :: l => by
  have h := rowR_len n l
  unfold rowR
  split
  ·
   rw [List.length_append, List.length_singleton, List.length_cons]; omega
  ·
   rw [List.length_cons]; omega
theorem rowL_len (n : Int) (l : List Rl) : (rowL n l).length ≤ l.length := by
 have h := rowR_len n l.reverse
 rwa [List.length_reverse] at h
theorem rowR_sum (n : Int) : ∀ l : List Rl, (∀ x ∈ l, x.f2.size ≤ 50) → ((rowR n l).map fun p => p.1.length).sum ≤ 50 * l.length
 | [], _ => Nat.le_refl _
 | x :: l, hx => by
  have h := rowR_sum n l (fun y hy => hx y (List.mem_cons_of_mem _ hy))
  have h2 := hx x List.mem_cons_self
  have e : x.f2.data.toList.length = x.f2.size := by rw [Array.length_toList]; rfl
  unfold rowR
  split
  ·
   simp only [List.map_append, List.map_cons, List.map_nil, List.sum_append, List.sum_cons, List.sum_nil, List.length_cons]; omega
  ·
   rw [List.length_cons]; omega
theorem tree_n (n : Int) (l : List Rl) (h : ∀ x ∈ l, x.f2.size ≤ 50) : (build (rowL n l)).n ≤ 50 * l.length := by
 have h1 := build_n (rowL n l)
 have h2 := rowR_sum n l.reverse (fun x hx => h x (List.mem_reverse.1 hx))
 rw [List.length_reverse] at h2
 exact Nat.le_trans h1 h2
def fitB (l : List Rl) : Bool := decide (l.length ≤ 450) && l.all fun x => decide (1 ≤ x.f0) && decide (x.f0 ≤ 8) && decide (x.f1.size ≤ 50) && decide (x.f2.size ≤ 50)
theorem fit_of {l : List Rl} (h : fitB l = true) : l.length ≤ 450 ∧ ∀ x ∈ l, 1 ≤ x.f0 ∧ x.f0 ≤ 8 ∧ x.f1.size ≤ 50 ∧ x.f2.size ≤ 50 := by
 unfold fitB at h
 simp only [Bool.and_eq_true, decide_eq_true_eq, List.all_eq_true] at h
 exact ⟨h.1, fun x hx => by have := h.2 x hx; exact ⟨this.1.1.1, this.1.1.2, this.1.2, this.2⟩⟩
def trieCells (A : Option Addr) (n c m : Nat) : Array Value := #[.slice A n c, .map (some (m + 4)), .map (some (m + 5)), .map (some (m + 7)), .map (some (m + 8)), .map (some (m + 10)), .map (some (m + 11)), .map (some (m + 13)), .map (some (m + 14)), .map (some m), .map (some (m + 1))]
structure TS (w : World) (m : Nat) (A : Option Addr) (c : Nat) (l : List Rl) (F : Nat → List (List UInt8 × Int)) (LW LL : List Rl) : Prop where
 obj : w.heap[m + 2]? = some (.cells (trieCells A l.length c m) 57)
 row : Kd.C k33 w A l.length l
 cap : l.length ≤ c
 steps : ∀ n, n < 4 → Steps w (m + 4 + 3 * n) (build (F n)).st (build (F n)).n
 ends : ∀ n, n < 4 → ∃ k, k ≤ (F n).length ∧ Ends w (m + 5 + 3 * n) (build (F n)).en k
 words : ∃ k, k ≤ LW.length ∧ Words w m (wordF LW) k
 lefts : ∃ k, k ≤ LL.length ∧ Lefts w (m + 1) (leftF LL) k
theorem TS.below {w w' : World} {m c : Nat} {A : Option Addr} {l LW LL : List Rl} {F : Nat → List (List UInt8 × Int)} (h : TS w m A c l F LW LL) (hb : Below w.heap.size w w') : TS w' m A c l F LW LL := by
 have mv : ∀ {k : Nat}, k < w.heap.size → w'.heap[k]? = w.heap[k]? := fun {k} hk => hb.block k hk
 refine ⟨(mv (Array.getElem?_eq_some_iff.1 h.obj).1).trans h.obj, Kd.C_below h.row hb, h.cap, fun n hn => (h.steps n hn).move (mv (MapI.lt (h.steps n hn))), fun n hn => ?_, ?_, ?_⟩
 ·
  obtain ⟨k, hk, he⟩ := h.ends n hn
  exact ⟨k, hk, he.move (mv (MapI.lt he))⟩
 ·
  obtain ⟨k, hk, he⟩ := h.words
  exact ⟨k, hk, MapI.move he (mv (MapI.lt he))⟩
 ·
  obtain ⟨k, hk, he⟩ := h.lefts
  exact ⟨k, hk, MapI.move he (mv (MapI.lt he))⟩
def TV (w : World) (v : Value) : Option (Option (List Rl)) → Prop
 | none => v = .pointer none
 | some none => ∃ b, v = .pointer (some ⟨b, 0, none⟩) ∧ w.cell? ⟨b, 9, none⟩ = some (.map none)
 | some (some l) => fitB l = true ∧ ∃ m A c, v = .pointer (some ⟨m + 2, 0, none⟩) ∧ TS w m A c l (fun n => rowL n l) l l
theorem TV.below {w w' : World} {v : Value} {x : Option (Option (List Rl))} (h : TV w v x) (hb : Below w.heap.size w w') : TV w' v x := by
 match x, h with
 | none, h => exact h
 | some none, ⟨b, h1, h2⟩ => exact ⟨b, h1, (hb.cell (World.block_lt_of_cell? w _ h2)).trans h2⟩
 | some (some l), ⟨h0, m, A, c, h1, h2⟩ => exact ⟨h0, m, A, c, h1, h2.below hb⟩
theorem map_nil (w : World) : (binOp .eql 54 (.map none) (.map none)).run Try.prog w = .ok (.bool true) w := by kernel_rfl
theorem map_not_nil (w : World) (m : Nat) : (binOp .eql 54 (.map (some m)) (.map none)).run Try.prog w = .ok (.bool false) w := by kernel_rfl
set_option maxHeartbeats 1600000 in
set_option maxRecDepth 100000 in
theorem trie_none.calls (v : Value) (x : Option (Option (List Rl))) (w : World) (h : TV w v x) :
  Calls Try.prog 39 #[v] w fun e w' => e = .returned (.bool x.join.isNone) ∧ w' = w := by
 match x, h with
 | none, h =>
  obtain rfl := h
  go_enter Try.func39, Try.ntmps39
  go_wp2
  go_ret
  exact ⟨rfl, rfl⟩
 | some none, ⟨b, h1, h2⟩ =>
  obtain rfl := h1
  have hmap := map_nil w
  go_enter Try.func39, Try.ntmps39
  go_wp2
  go_ret
  exact ⟨rfl, rfl⟩
 | some (some l), ⟨h0, m, A, c, h1, h2⟩ =>
  obtain rfl := h1
  have h3 : w.cell? ⟨m + 2, 9, none⟩ = some (.map (some m)) := by simp [World.cell?, h2.obj, trieCells]
  have hmap := map_not_nil w m
  clear h2 h0
  go_enter Try.func39, Try.ntmps39
  go_wp2
  go_ret
  exact ⟨rfl, rfl⟩
def ans (o : Option Int) : Value := .tuple #[.int .i64 (o.getD 0), .bool o.isSome]
theorem words_look {w : World} {b m : Nat} {f : ByteArray → Option Int} (h : Words w b f m) (s : ByteArray) (hs : s.size ≤ maxLen) :
  (Instr.lookup 54 (.map (some b)) (.string s) true).run Try.prog w = .ok (ans (f s)) w := (MapI.look h textK s hs Try.underlying54 Try.underlying3 (zero_int w)).1
theorem lefts_look {w : World} {b m : Nat} {f : Int × ByteArray → Option Int} (h : Lefts w b f m) (a : Int) (s : ByteArray) (ha : sideOk (a, s)) :
  (Instr.lookup 55 (.map (some b)) (.agg #[.int .i64 a, .string s]) true).run Try.prog w = .ok (ans (f (a, s))) w := (MapI.look h sideK (a, s) ha Try.underlying55 Try.underlying3 (zero_int w)).1
def wordO (x : Option (Option (List Rl))) (s : ByteArray) : Option Int := x.join.bind fun l => wordF l s
def findO (x : Option (Option (List Rl))) (a : Int) (s : ByteArray) : Option Int := x.join.bind fun l => leftF l (a, s)
def matchO (x : Option (Option (List Rl))) (s : ByteArray) (at_ row : Int) : Option Int := if at_ < 0 ∨ at_ ≥ (s.size : Int) ∨ row < 0 ∨ row ≥ 4 then none else x.join.bind fun l => matchGo (build (rowL row l)) (s.data.toList.drop at_.toNat) 0
set_option maxHeartbeats 1600000 in
set_option maxRecDepth 100000 in
theorem trie_Word.calls (v : Value) (x : Option (Option (List Rl))) (s : ByteArray) (hs : s.size ≤ 140737488351232) (w : World) (h : TV w v x) :
  Calls Try.prog 16 #[v, .string s] w fun e w' => e = .returned (ans (wordO x s)) ∧ w' = w := by
 have hn := trie_none.calls v x w h
 generalize hj : x.join = j at hn
 cases j with
 | none =>
  have hr : wordO x s = none := by unfold wordO; rw [hj]; rfl
  rw [hr]
  clear h hj hr
  go_enter Try.func16, Try.ntmps16
  go_wp2_with fail
  go_at_call 39
  refine hn.mono ?_
  rintro e w' ⟨rfl, rfl⟩
  go_wp2
  go_ret2
  exact ⟨rfl, rfl⟩
 | some l =>
  have hr : wordO x s = wordF l s := by unfold wordO; rw [hj]; rfl
  obtain rfl : x = some (some l) := by cases x with | none => cases hj | some y => cases y with | none => cases hj | some z => cases hj; rfl
  obtain ⟨h0, m, A, c, rfl, h2⟩ := h
  obtain ⟨k, hk, hW⟩ := h2.words
  have hlk := words_look hW s (by unfold maxLen; omega)
  have h3 : w.cell? ⟨m + 2, 9, none⟩ = some (.map (some m)) := by simp [World.cell?, h2.obj, trieCells]
  rw [hr]
  unfold ans at hlk
  obtain ⟨o, ho⟩ : ∃ o, wordF l s = o := ⟨_, rfl⟩
  rw [ho] at hlk ⊢
  clear h2 h0 hW hj hr ho
  go_enter Try.func16, Try.ntmps16
  go_wp2_with fail
  go_at_call 39
  refine hn.mono ?_
  rintro e w' ⟨rfl, rfl⟩
  go_wp2
  go_ret2
  exact ⟨rfl, rfl⟩
set_option maxHeartbeats 1600000 in
set_option maxRecDepth 100000 in
theorem trie_Find.calls (v : Value) (x : Option (Option (List Rl))) (a : Int) (s : ByteArray) (ha : sideOk (a, s)) (w : World) (h : TV w v x) :
  Calls Try.prog 15 #[v, .int .i64 a, .string s] w fun e w' => e = .returned (ans (findO x a s)) ∧ w' = w := by
 have hn := trie_none.calls v x w h
 generalize hj : x.join = j at hn
 cases j with
 | none =>
  have hr : findO x a s = none := by unfold findO; rw [hj]; rfl
  rw [hr]
  clear h hj hr ha
  go_enter Try.func15, Try.ntmps15
  go_wp2_with fail
  go_at_call 39
  refine hn.mono ?_
  rintro e w' ⟨rfl, rfl⟩
  go_wp2
  go_ret2
  exact ⟨rfl, rfl⟩
 | some l =>
  have hr : findO x a s = leftF l (a, s) := by unfold findO; rw [hj]; rfl
  obtain rfl : x = some (some l) := by cases x with | none => cases hj | some y => cases y with | none => cases hj | some z => cases hj; rfl
  obtain ⟨h0, m, A, c, rfl, h2⟩ := h
  obtain ⟨k, hk, hW⟩ := h2.lefts
  have hlk := lefts_look hW a s ha
  have h3 : w.cell? ⟨m + 2, 10, none⟩ = some (.map (some (m + 1))) := by simp [World.cell?, h2.obj, trieCells]
  rw [hr]
  unfold ans at hlk
  obtain ⟨o, ho⟩ : ∃ o, leftF l (a, s) = o := ⟨_, rfl⟩
  rw [ho] at hlk ⊢
  clear h2 h0 hW hj hr ho ha
  go_enter Try.func15, Try.ntmps15
  go_wp2_with fail
  go_at_call 39
  refine hn.mono ?_
  rintro e w' ⟨rfl, rfl⟩
  go_wp2
  go_ret2
  exact ⟨rfl, rfl⟩
end Go.Proofs.Ytbpbniemjjhecaa.G
