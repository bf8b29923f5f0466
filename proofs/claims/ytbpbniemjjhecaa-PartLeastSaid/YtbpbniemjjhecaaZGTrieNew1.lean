import Derived.Test.YtbpbniemjjhecaaZGTrieMatch
namespace Go.Proofs.Ytbpbniemjjhecaa.G
set_option linter.unusedVariables false
set_option linter.unusedSimpArgs false
open Go.RowKit Go.Maps Go.Proofs.Ytbpbniemjjhecaa.GM Go.Proofs.Ytbpbniemjjhecaa.GT Go.Proofs.Ytbpbniemjjhecaa.PChk Go.Proofs.Ytbpbniemjjhecaa.PureC Go.Proofs.YtbpbniemjjhecaaW.PrintWords Go.Proofs.YtbpbniemjjhecaaW.PrintLast Go.Proofs.YtbpbniemjjhecaaW.PrintMore
theorem rules_kept {w w' : World} {A : Option Addr} {n : Nat} {l : List Rl} (h : Kd.C k33 w A n l) (hk : ∀ (k : Nat) (cells : Array Value) (t : TypeId) (fr : Nat × Nat), w.heap[k]? = some (Obj.cells cells t fr) → w'.heap[k]? = w.heap[k]?) : Kd.C k33 w' A n l := by
 have hc : ∀ a v, w.cell? a = some v → w'.cell? a = some v := by
  intro a v hv
  have h2 : ∃ cells t fr, w.heap[a.block]? = some (.cells cells t fr) := by
   unfold World.cell? at hv
   split at hv
   ·
    rename_i cells t fr heq
    exact ⟨_, _, _, heq⟩
   ·
    cases hv
  obtain ⟨cells, t, fr, h3⟩ := h2
  have h4 := hk _ _ _ _ h3
  unfold World.cell? at hv ⊢
  rw [h4]
  exact hv
 refine ⟨h.1, h.2.1, fun hn => ?_⟩
 obtain ⟨ad, e, hh⟩ := h.2.2 hn
 refine ⟨ad, e, fun j p hj => ?_⟩
 obtain ⟨c, hs, hr, hcell⟩ := hh j p hj
 have := k33_open hr
 subst this
 exact ⟨_, hs, k33_mk w' p, fun i u hu => hc _ _ (hcell i u hu)⟩
section
variable {w w' : World} {m c : Nat} {A : Option Addr} {l LW LL : List Rl} {F : Nat → List (List UInt8 × Int)}
theorem TS.lt (h : TS w m A c l F LW LL) : m + 2 < w.heap.size := (Array.getElem?_eq_some_iff.1 h.obj).1
theorem TS.alloc (h : TS w m A c l F LW LL) (o : Obj) : TS (w.alloc o) m A c l F LW LL := h.below ((Below.refl _ _).alloc (Nat.le_refl _) o)
theorem TS.drew (h : TS w m A c l F LW LL) : TS w.drew m A c l F LW LL := h.below (below_drew (Below.refl _ _))
theorem map_ne {b : Nat} {es : Array MapEntry} {cl : Nat} (hb : w.heap[b]? = some (.map es cl)) {k : Nat} {cells : Array Value} {t : TypeId} {fr : Nat × Nat} (hk : w.heap[k]? = some (.cells cells t fr)) : k ≠ b := by
 rintro rfl
 rw [hb] at hk
 cases hk
theorem TS.put_left (h : TS w m A c l F LW LL) (x : Rl) (hx : sideOk (x.f0, x.f1)) (hl : LL.length ≤ 1000000) :
  ∃ w', (Instr.mapUpdate 55 (.map (some (m + 1))) (.agg #[.int .i64 x.f0, .string x.f1]) (.int .i64 (LL.length : Int))).run Try.prog w = .ok () w' ∧ TS w' m A c l F LW (LL ++ [x]) ∧ w.mapTurned w' (m + 1) := by
 obtain ⟨k, hk, hL⟩ := h.lefts
 obtain ⟨w', hrun, hL', hturn⟩ := MapI.store hL sideK side_inj (x.f0, x.f1) hx Try.underlying55 Try.underlying3 (by unfold maxLen; omega) (LL.length : Int) (WalkArith.wf_i64 (by omega))
 refine ⟨w', hrun, ?_, hturn⟩
 have hg := hturn.grown
 obtain ⟨es, cl, hb⟩ := MapI.is hL
 have mv : ∀ {i : Nat}, i < w.heap.size → i ≠ m + 1 → w'.heap[i]? = w.heap[i]? := fun {i} hi hn => hg.block i hi (fun e => by injection e with e; exact hn e)
 refine ⟨(mv h.lt (by omega)).trans h.obj, rules_kept h.row (fun i cells t fr hi => mv (Array.getElem?_eq_some_iff.1 hi).1 (map_ne hb hi)), h.cap, fun n hn => (h.steps n hn).move (mv (MapI.lt (h.steps n hn)) (by omega)), fun n hn => ?_, ?_, ?_⟩
 ·
  obtain ⟨k, hk, he⟩ := h.ends n hn
  exact ⟨k, hk, he.move (mv (MapI.lt he) (by omega))⟩
 ·
  obtain ⟨k, hk, he⟩ := h.words
  exact ⟨k, hk, MapI.move he (mv (MapI.lt he) (by omega))⟩
 ·
  have e : leftF (LL ++ [x]) = fun j => if j = (x.f0, x.f1) then some (LL.length : Int) else leftF LL j := by
   funext j
   unfold leftF
   rw [lastI_snoc]
   by_cases e : j = (x.f0, x.f1)
   ·
    rw [if_pos e, if_pos (by unfold leftP; exact decide_eq_true e.symm)]
   ·
    rw [if_neg e, if_neg (by unfold leftP; simpa using fun e2 => e e2.symm)]
  rw [e]
  refine ⟨_, ?_, hL'⟩
  rw [List.length_append, List.length_singleton]
  split <;> omega
theorem TS.put_word (h : TS w m A c l F LW LL) (x : Rl) (hx : textOk x.f2) (h5 : x.f0 = 5) (hl : LW.length ≤ 1000000) :
  ∃ w', (Instr.mapUpdate 54 (.map (some m)) (.string x.f2) (.int .i64 (LW.length : Int))).run Try.prog w = .ok () w' ∧ TS w' m A c l F (LW ++ [x]) LL ∧ w.mapTurned w' m := by
 obtain ⟨k, hk, hL⟩ := h.words
 obtain ⟨w', hrun, hL', hturn⟩ := MapI.store hL textK text_inj x.f2 hx Try.underlying54 Try.underlying3 (by unfold maxLen; omega) (LW.length : Int) (WalkArith.wf_i64 (by omega))
 refine ⟨w', hrun, ?_, hturn⟩
 have hg := hturn.grown
 obtain ⟨es, cl, hb⟩ := MapI.is hL
 have mv : ∀ {i : Nat}, i < w.heap.size → i ≠ m → w'.heap[i]? = w.heap[i]? := fun {i} hi hn => hg.block i hi (fun e => by injection e with e; exact hn e)
 refine ⟨(mv h.lt (by omega)).trans h.obj, rules_kept h.row (fun i cells t fr hi => mv (Array.getElem?_eq_some_iff.1 hi).1 (map_ne hb hi)), h.cap, fun n hn => (h.steps n hn).move (mv (MapI.lt (h.steps n hn)) (by omega)), fun n hn => ?_, ?_, ?_⟩
 ·
  obtain ⟨k, hk, he⟩ := h.ends n hn
  exact ⟨k, hk, he.move (mv (MapI.lt he) (by omega))⟩
 ·
  have e : wordF (LW ++ [x]) = fun j => if j = x.f2 then some (LW.length : Int) else wordF LW j := by
   funext j
   unfold wordF
   rw [lastI_snoc]
   by_cases e : j = x.f2
   ·
    rw [if_pos e, if_pos (by unfold wordP; simp [h5, e])]
   ·
    rw [if_neg e, if_neg (by unfold wordP; simp [h5]; exact fun e2 => e e2.symm)]
  rw [e]
  refine ⟨_, ?_, hL'⟩
  rw [List.length_append, List.length_singleton]
  split <;> omega
 ·
  obtain ⟨k, hk, he⟩ := h.lefts
  exact ⟨k, hk, MapI.move he (mv (MapI.lt he) (by omega))⟩
theorem TS.same (h : TS w m A c l F LW LL) {F' : Nat → List (List UInt8 × Int)} (hF : ∀ n, n < 4 → F n = F' n) : TS w m A c l F' LW LL :=
 ⟨h.obj, h.row, h.cap, fun n hn => by rw [← hF n hn]; exact h.steps n hn, fun n hn => by rw [← hF n hn]; exact h.ends n hn, h.words, h.lefts⟩
theorem TS.no_word (h : TS w m A c l F LW LL) (x : Rl) (h5 : ¬ x.f0 = 5) : TS w m A c l F (LW ++ [x]) LL := by
 obtain ⟨k, hk, hL⟩ := h.words
 refine ⟨h.obj, h.row, h.cap, h.steps, h.ends, ⟨k, by rw [List.length_append]; omega, ?_⟩, h.lefts⟩
 have e : wordF (LW ++ [x]) = wordF LW := by
  funext j
  unfold wordF
  rw [lastI_snoc, if_neg (by unfold wordP; simp [h5])]
 rw [e]
 exact hL
theorem TS.put_row (h : TS w m A c l F LW LL) (n : Nat) (hn : n < 4) (s : List UInt8) (r : Int) (k : Nat) (hT : Two w w' (m + 4 + 3 * n) (m + 5 + 3 * n)) (hk : k ≤ (F n).length)
  (hs : Steps w' (m + 4 + 3 * n) ((build (F n)).put s r).st ((build (F n)).put s r).n) (he : ∃ k', k' ≤ k + 1 ∧ Ends w' (m + 5 + 3 * n) ((build (F n)).put s r).en k') (F' : Nat → List (List UInt8 × Int)) (hF : F' n = F n ++ [(s, r)]) (hO : ∀ i, i ≠ n → F' i = F i) : TS w' m A c l F' LW LL := by
 obtain ⟨es, cl, hb1⟩ := MapI.is (h.steps n hn)
 obtain ⟨k0, hk0, hE⟩ := h.ends n hn
 obtain ⟨es2, cl2, hb2⟩ := MapI.is hE
 have hb : build (F' n) = (build (F n)).put s r := by rw [hF, build_snoc]
 have mv : ∀ {i : Nat}, i < w.heap.size → i ≠ m + 4 + 3 * n → i ≠ m + 5 + 3 * n → w'.heap[i]? = w.heap[i]? := fun {i} hi h1 h2 => hT.block i hi h1 h2
 refine ⟨(mv h.lt (by omega) (by omega)).trans h.obj, rules_kept h.row (fun i cells t fr hi => mv (Array.getElem?_eq_some_iff.1 hi).1 (map_ne hb1 hi) (map_ne hb2 hi)), h.cap, fun i hi => ?_, fun i hi => ?_, ?_, ?_⟩
 ·
  by_cases e : i = n
  ·
   subst e
   rw [hb]
   exact hs
  ·
   rw [hO i e]
   exact (h.steps i hi).move (mv (MapI.lt (h.steps i hi)) (by omega) (by omega))
 ·
  by_cases e : i = n
  ·
   subst e
   obtain ⟨k', hk', he⟩ := he
   rw [hb, hF]
   exact ⟨k', by rw [List.length_append, List.length_singleton]; omega, he⟩
  ·
   rw [hO i e]
   obtain ⟨k2, hk2, he2⟩ := h.ends i hi
   exact ⟨k2, hk2, he2.move (mv (MapI.lt he2) (by omega) (by omega))⟩
 ·
  obtain ⟨k, hk, he⟩ := h.words
  exact ⟨k, hk, MapI.move he (mv (MapI.lt he) (by omega) (by omega))⟩
 ·
  obtain ⟨k, hk, he⟩ := h.lefts
  exact ⟨k, hk, MapI.move he (mv (MapI.lt he) (by omega) (by omega))⟩
end
theorem add_block (a : Addr) (j : Nat) : (a.add j).block = a.block := by
 unfold Addr.add
 split <;> rfl
theorem rules_at {w w' : World} {A : Option Addr} {n : Nat} {l : List Rl} (h : Kd.C k33 w A n l) (hk : ∀ ad, A = some ad → ad.block < w.heap.size → w'.heap[ad.block]? = w.heap[ad.block]?) : Kd.C k33 w' A n l := by
 refine ⟨h.1, h.2.1, fun hn => ?_⟩
 obtain ⟨ad, e, hh⟩ := h.2.2 hn
 refine ⟨ad, e, fun j p hj => ?_⟩
 obtain ⟨c, hs, hr, hcell⟩ := hh j p hj
 have := k33_open hr
 subst this
 refine ⟨_, hs, k33_mk w' p, fun i u hu => ?_⟩
 have h1 := hcell i u hu
 have hlt := World.block_lt_of_cell? w _ h1
 rw [add_block] at hlt
 have h2 := hk ad e hlt
 unfold World.cell? at h1 ⊢
 rw [add_block] at h1 ⊢
 rw [h2]
 exact h1
theorem TS.fresh {w w' : World} {m c B : Nat} {A : Option Addr} {l LW LL : List Rl} {F : Nat → List (List UInt8 × Int)} (h : TS w m A c l F LW LL) (hm : B ≤ m) (hA : ∀ ad, A = some ad → B ≤ ad.block) (hk : ∀ k, B ≤ k → k < w.heap.size → w'.heap[k]? = w.heap[k]?) : TS w' m A c l F LW LL := by
 refine ⟨(hk _ (by omega) h.lt).trans h.obj, rules_at h.row (fun ad e hlt => hk _ (hA ad e) hlt), h.cap, fun n hn => (h.steps n hn).move (hk _ (by omega) (MapI.lt (h.steps n hn))), fun n hn => ?_, ?_, ?_⟩
 ·
  obtain ⟨k, hk2, he⟩ := h.ends n hn
  exact ⟨k, hk2, he.move (hk _ (by omega) (MapI.lt he))⟩
 ·
  obtain ⟨k, hk2, he⟩ := h.words
  exact ⟨k, hk2, MapI.move he (hk _ (by omega) (MapI.lt he))⟩
 ·
  obtain ⟨k, hk2, he⟩ := h.lefts
  exact ⟨k, hk2, MapI.move he (hk _ (by omega) (MapI.lt he))⟩
theorem below_two {B : Nat} {w w1 w2 : World} {s e : Nat} (h : Below B w w1) (hT : Two w1 w2 s e) (hB : B ≤ w1.heap.size) (hs : B ≤ s) (he : B ≤ e) : Below B w w2 :=
 ⟨hT.os.trans h.os, hT.tape.trans h.tape, hT.output.trans h.output, Nat.le_trans h.size hT.size, fun k hk => (hT.block k (by omega) (by omega) (by omega)).trans (h.block k hk)⟩
theorem below_turned {B : Nat} {w w1 w2 : World} {b : Nat} (h : Below B w w1) (hT : w1.mapTurned w2 b) (hB : B ≤ w1.heap.size) (hb : B ≤ b) : Below B w w2 := h.grown hT.grown hB (fun k e => by cases e; exact hb)
end Go.Proofs.Ytbpbniemjjhecaa.G
