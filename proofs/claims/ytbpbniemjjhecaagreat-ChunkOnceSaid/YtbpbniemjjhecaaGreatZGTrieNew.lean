import Derived.Test.YtbpbniemjjhecaaGreatZPureTrieA
import Derived.Test.YtbpbniemjjhecaaGreatZGTail
section
namespace Go.Proofs.YtbpbniemjjhecaaGreat.PureC
open Go.RowKit Go.Proofs.YtbpbniemjjhecaaGreat.PChk Go.Proofs.YtbpbniemjjhecaaGreat.G Go.Proofs.YtbpbniemjjhecaaGreat.GT Go.Proofs.YtbpbniemjjhecaaGreatW.PrintWords Go.Proofs.YtbpbniemjjhecaaGreatW.PrintLast
set_option linter.unusedSimpArgs false
def fstI (p : Rl → Bool) : List Rl → Nat → Option Int
 | [], _ => none
 | x :: l, i => if p x = true then some (i : Int) else fstI p l (i + 1)
theorem fst_some (p : Rl → Bool) : ∀ (l : List Rl) (i : Nat) (r : Int), fstI p l i = some r → ∃ j, ∃ x, l[j]? = some x ∧ p x = true ∧ r = ((i + j : Nat) : Int)
 | [], i, r, h => by cases h
 | x :: l, i, r, h => by
  unfold fstI at h
  by_cases hp : p x = true
  ·
   rw [if_pos hp] at h
   exact ⟨0, x, rfl, hp, (Option.some.inj h).symm⟩
  ·
   rw [if_neg hp] at h
   obtain ⟨j, y, h1, h2, h3⟩ := fst_some p l (i + 1) r h
   exact ⟨j + 1, y, h1, h2, by rw [h3]; omega⟩
theorem fst_none (p : Rl → Bool) : ∀ (l : List Rl) (i : Nat), fstI p l i = none → ∀ x ∈ l, p x = false
 | [], i, h, x, hx => by cases hx
 | y :: l, i, h, x, hx => by
  unfold fstI at h
  by_cases hp : p y = true
  ·
   rw [if_pos hp] at h
   cases h
  ·
   rw [if_neg hp] at h
   rcases List.mem_cons.1 hx with rfl | hx
   ·
    exact Bool.eq_false_iff.2 hp
   ·
    exact fst_none p l (i + 1) h x hx
theorem lastI_some (p : Rl → Bool) : ∀ (l : List Rl) (r : Int), lastI p l = some r → ∃ j : Nat, ∃ x : Rl, l[j]? = some x ∧ p x = true ∧ r = (j : Int) := by
 refine snoc_ind (fun r h => by cases h) ?_
 intro l x ih r h
 rw [lastI_snoc] at h
 by_cases hp : p x = true
 ·
  rw [if_pos hp] at h
  exact ⟨l.length, x, by simp, hp, (Option.some.inj h).symm⟩
 ·
  rw [if_neg hp] at h
  obtain ⟨j, y, h1, h2, h3⟩ := ih r h
  exact ⟨j, y, by rw [List.getElem?_append_left (List.getElem?_eq_some_iff.1 h1).1]; exact h1, h2, h3⟩
theorem lastI_none (p : Rl → Bool) : ∀ l : List Rl, lastI p l = none → ∀ x ∈ l, p x = false := by
 refine snoc_ind (fun _ x hx => by cases hx) ?_
 intro l x ih h y hy
 rw [lastI_snoc] at h
 by_cases hp : p x = true
 ·
  rw [if_pos hp] at h
  cases h
 ·
  rw [if_neg hp] at h
  rcases List.mem_append.1 hy with hy | hy
  ·
   exact ih h y hy
  ·
   rw [List.mem_singleton.1 hy]
   exact Bool.eq_false_iff.2 hp
def One (p : Rl → Bool) (l : List Rl) : Prop := ∀ (i j : Nat) (x y : Rl), l[i]? = some x → l[j]? = some y → p x = true → p y = true → i = j
theorem last_fst (p : Rl → Bool) (l : List Rl) (h : One p l) : lastI p l = fstI p l 0 := by
 cases h1 : lastI p l with
 | none =>
  cases h2 : fstI p l 0 with
  | none => rfl
  | some r =>
   obtain ⟨j, x, h3, h4, _⟩ := fst_some p l 0 r h2
   have := lastI_none p l h1 x (List.mem_of_getElem? h3)
   rw [this] at h4
   cases h4
 | some r =>
  obtain ⟨j, x, h3, h4, rfl⟩ := lastI_some p l r h1
  cases h2 : fstI p l 0 with
  | none =>
   have := fst_none p l 0 h2 x (List.mem_of_getElem? h3)
   rw [this] at h4
   cases h4
  | some r =>
   obtain ⟨i, y, h5, h6, rfl⟩ := fst_some p l 0 r h2
   rw [h j i x y h3 h5 h4 h6]
   simp
theorem apart_one {l : List Rl} (h : Apart l) (p : Rl → Bool) (hp : ∀ x ∈ l, ∀ y ∈ l, p x = true → p y = true → clashB x y = true) : One p l := by
 have key : ∀ (i j : Nat) (x y : Rl), i < j → l[i]? = some x → l[j]? = some y → p x = true → p y = true → False := by
  intro i j x y hij hx hy h1 h2
  obtain ⟨hi, ex⟩ := List.getElem?_eq_some_iff.1 hx
  obtain ⟨hj, ey⟩ := List.getElem?_eq_some_iff.1 hy
  have h3 := List.pairwise_iff_getElem.1 h.2 i j hi hj hij
  rw [ex, ey] at h3
  rw [hp x (List.mem_of_getElem? hx) y (List.mem_of_getElem? hy) h1 h2] at h3
  cases h3
 intro i j x y hx hy h1 h2
 rcases Nat.lt_trichotomy i j with h3 | h3 | h3
 ·
  exact (key i j x y h3 hx hy h1 h2).elim
 ·
  exact h3
 ·
  exact (key j i y x h3 hy hx h2 h1).elim
theorem word_one {l : List Rl} (h : Apart l) (c : ByteArray) : One (wordP c) l := by
 refine apart_one h _ fun x _ y _ h1 h2 => ?_
 unfold wordP at h1 h2
 simp only [Bool.and_eq_true, decide_eq_true_eq] at h1 h2
 unfold clashB
 rw [h1.1, h2.1, h1.2, h2.2]
 simp
theorem left_one {l : List Rl} (h : Apart l) (j : Int × ByteArray) : One (leftP j) l := by
 refine apart_one h _ fun x _ y _ h1 h2 => ?_
 unfold leftP at h1 h2
 rw [decide_eq_true_eq] at h1 h2
 have h3 := h1.trans h2.symm
 simp only [Prod.mk.injEq] at h3
 unfold clashB
 rw [h3.1, h3.2]
 simp
theorem toList_data (a : ByteArray) : a.toList = a.data.toList := ByteArray.toList_eq a
theorem cells_pos (x : Rl) (h : aloneB x = true) : x.f2.data.toList ≠ [] := by
 unfold aloneB at h
 rw [Bool.and_eq_true] at h
 have h1 := h.1
 unfold mayB at h1
 simp only [Bool.and_eq_true] at h1
 have h2 := print_pos x.f2 h1.1.2
 intro e
 have h3 := list_len x.f2
 rw [e] at h3
 simp at h3
 omega
theorem word_plain {l : List Rl} (h : Apart l) (s : ByteArray) : wordO (some (some l)) s = fstI (wordP s) l 0 := last_fst _ l (word_one h s)
theorem find_plain {l : List Rl} (h : Apart l) (a : Int) (s : ByteArray) : findO (some (some l)) a s = fstI (leftP (a, s)) l 0 := last_fst _ l (left_one h (a, s))
theorem alone_fit (x : Rl) (h : aloneB x = true) (hs : Short x) : 1 ≤ x.f0 ∧ x.f0 ≤ 8 ∧ x.f1.size ≤ 50 ∧ x.f2.size ≤ 50 := by
 unfold aloneB at h
 rw [Bool.and_eq_true] at h
 have h1 := h.1
 unfold mayB at h1
 simp only [Bool.and_eq_true, decide_eq_true_eq] at h1
 exact ⟨h1.1.1.1.1, h1.1.1.1.2, hs.1, hs.2⟩
theorem fit_apart (l : List Rl) (h : Apart l) (hl : l.length ≤ 450) (hs : ∀ x ∈ l, Short x) : fitB l = true := by
 unfold fitB
 rw [Bool.and_eq_true, List.all_eq_true]
 refine ⟨decide_eq_true hl, fun x hx => ?_⟩
 obtain ⟨h1, h2, h3, h4⟩ := alone_fit x (h.1 x hx) (hs x hx)
 simp [h1, h2, h3, h4]
end Go.Proofs.YtbpbniemjjhecaaGreat.PureC
end
section
namespace Go.Proofs.YtbpbniemjjhecaaGreat.G
set_option linter.unusedVariables false
set_option linter.unusedSimpArgs false
open Go.RowKit Go.Maps Go.Proofs.YtbpbniemjjhecaaGreat.GM Go.Proofs.YtbpbniemjjhecaaGreat.GT Go.Proofs.YtbpbniemjjhecaaGreat.PChk Go.Proofs.YtbpbniemjjhecaaGreat.PureC Go.Proofs.YtbpbniemjjhecaaGreatW.PrintWords Go.Proofs.YtbpbniemjjhecaaGreatW.PrintLast Go.Proofs.YtbpbniemjjhecaaGreatW.PrintMore
theorem rules_kept {w w' : World} {A : Option Addr} {n : Nat} {l : List Rl} (h : Kd.C k50 w A n l) (hk : ∀ (k : Nat) (cells : Array Value) (t : TypeId) (fr : Nat × Nat), w.heap[k]? = some (Obj.cells cells t fr) → w'.heap[k]? = w.heap[k]?) : Kd.C k50 w' A n l := by
 have hc : ∀ a v, w.cell? a = some v → w'.cell? a = some v := by
  intro a v hv
  have h2 : ∃ cells t fr, w.heap[a.block]? = some (.cells cells t fr) := by
   unfold World.cell? at hv
   split at hv
   ·
    rename_i cells t fr heq
    exact ⟨_, _, _, heq⟩
   ·
    cases hv
  obtain ⟨cells, t, fr, h3⟩ := h2
  have h4 := hk _ _ _ _ h3
  unfold World.cell? at hv ⊢
  rw [h4]
  exact hv
 refine ⟨h.1, h.2.1, fun hn => ?_⟩
 obtain ⟨ad, e, hh⟩ := h.2.2 hn
 refine ⟨ad, e, fun j p hj => ?_⟩
 obtain ⟨c, hs, hr, hcell⟩ := hh j p hj
 have := k50_open hr
 subst this
 exact ⟨_, hs, k50_mk w' p, fun i u hu => hc _ _ (hcell i u hu)⟩
section
variable {w w' : World} {m c : Nat} {A : Option Addr} {l LW LL : List Rl} {F : Nat → List (List UInt8 × Int)}
theorem TS.lt (h : TS w m A c l F LW LL) : m + 2 < w.heap.size := (Array.getElem?_eq_some_iff.1 h.obj).1
theorem TS.alloc (h : TS w m A c l F LW LL) (o : Obj) : TS (w.alloc o) m A c l F LW LL := h.below ((Below.refl _ _).alloc (Nat.le_refl _) o)
theorem TS.drew (h : TS w m A c l F LW LL) : TS w.drew m A c l F LW LL := h.below (below_drew (Below.refl _ _))
theorem map_ne {b : Nat} {es : Array MapEntry} {cl : Nat} (hb : w.heap[b]? = some (.map es cl)) {k : Nat} {cells : Array Value} {t : TypeId} {fr : Nat × Nat} (hk : w.heap[k]? = some (.cells cells t fr)) : k ≠ b := by
 rintro rfl
 rw [hb] at hk
 cases hk
theorem TS.put_left (h : TS w m A c l F LW LL) (x : Rl) (hx : sideOk (x.f0, x.f1)) (hl : LL.length ≤ 1000000) :
  ∃ w', (Instr.mapUpdate 66 (.map (some (m + 1))) (.agg #[.int .i64 x.f0, .string x.f1]) (.int .i64 (LL.length : Int))).run Tryz.prog w = .ok () w' ∧ TS w' m A c l F LW (LL ++ [x]) ∧ w.mapTurned w' (m + 1) := by
 obtain ⟨k, hk, hL⟩ := h.lefts
 obtain ⟨w', hrun, hL', hturn⟩ := MapI.store hL sideK side_inj (x.f0, x.f1) hx Tryz.underlying66 Tryz.underlying3 (by unfold maxLen; omega) (LL.length : Int) (WalkArith.wf_i64 (by omega))
 refine ⟨w', hrun, ?_, hturn⟩
 have hg := hturn.grown
 obtain ⟨es, cl, hb⟩ := MapI.is hL
 have mv : ∀ {i : Nat}, i < w.heap.size → i ≠ m + 1 → w'.heap[i]? = w.heap[i]? := fun {i} hi hn => hg.block i hi (fun e => by injection e with e; exact hn e)
 refine ⟨(mv h.lt (by omega)).trans h.obj, rules_kept h.row (fun i cells t fr hi => mv (Array.getElem?_eq_some_iff.1 hi).1 (map_ne hb hi)), h.cap, fun n hn => (h.steps n hn).move (mv (MapI.lt (h.steps n hn)) (by omega)), fun n hn => ?_, ?_, ?_⟩
 ·
  obtain ⟨k, hk, he⟩ := h.ends n hn
  exact ⟨k, hk, he.move (mv (MapI.lt he) (by omega))⟩
 ·
  obtain ⟨k, hk, he⟩ := h.words
  exact ⟨k, hk, MapI.move he (mv (MapI.lt he) (by omega))⟩
 ·
  have e : leftF (LL ++ [x]) = fun j => if j = (x.f0, x.f1) then some (LL.length : Int) else leftF LL j := by
   funext j
   unfold leftF
   rw [lastI_snoc]
   by_cases e : j = (x.f0, x.f1)
   ·
    rw [if_pos e, if_pos (by unfold leftP; exact decide_eq_true e.symm)]
   ·
    rw [if_neg e, if_neg (by unfold leftP; simpa using fun e2 => e e2.symm)]
  rw [e]
  refine ⟨_, ?_, hL'⟩
  rw [List.length_append, List.length_singleton]
  split <;> omega
theorem TS.put_word (h : TS w m A c l F LW LL) (x : Rl) (hx : textOk x.f2) (h5 : x.f0 = 5) (hl : LW.length ≤ 1000000) :
  ∃ w', (Instr.mapUpdate 65 (.map (some m)) (.string x.f2) (.int .i64 (LW.length : Int))).run Tryz.prog w = .ok () w' ∧ TS w' m A c l F (LW ++ [x]) LL ∧ w.mapTurned w' m := by
 obtain ⟨k, hk, hL⟩ := h.words
 obtain ⟨w', hrun, hL', hturn⟩ := MapI.store hL textK text_inj x.f2 hx Tryz.underlying65 Tryz.underlying3 (by unfold maxLen; omega) (LW.length : Int) (WalkArith.wf_i64 (by omega))
 refine ⟨w', hrun, ?_, hturn⟩
 have hg := hturn.grown
 obtain ⟨es, cl, hb⟩ := MapI.is hL
 have mv : ∀ {i : Nat}, i < w.heap.size → i ≠ m → w'.heap[i]? = w.heap[i]? := fun {i} hi hn => hg.block i hi (fun e => by injection e with e; exact hn e)
 refine ⟨(mv h.lt (by omega)).trans h.obj, rules_kept h.row (fun i cells t fr hi => mv (Array.getElem?_eq_some_iff.1 hi).1 (map_ne hb hi)), h.cap, fun n hn => (h.steps n hn).move (mv (MapI.lt (h.steps n hn)) (by omega)), fun n hn => ?_, ?_, ?_⟩
 ·
  obtain ⟨k, hk, he⟩ := h.ends n hn
  exact ⟨k, hk, he.move (mv (MapI.lt he) (by omega))⟩
 ·
  have e : wordF (LW ++ [x]) = fun j => if j = x.f2 then some (LW.length : Int) else wordF LW j := by
   funext j
   unfold wordF
   rw [lastI_snoc]
   by_cases e : j = x.f2
   ·
    rw [if_pos e, if_pos (by unfold wordP; simp [h5, e])]
   ·
    rw [if_neg e, if_neg (by unfold wordP; simp [h5]; exact fun e2 => e e2.symm)]
  rw [e]
  refine ⟨_, ?_, hL'⟩
  rw [List.length_append, List.length_singleton]
  split <;> omega
 ·
  obtain ⟨k, hk, he⟩ := h.lefts
  exact ⟨k, hk, MapI.move he (mv (MapI.lt he) (by omega))⟩
theorem TS.same (h : TS w m A c l F LW LL) {F' : Nat → List (List UInt8 × Int)} (hF : ∀ n, n < 4 → F n = F' n) : TS w m A c l F' LW LL :=
 ⟨h.obj, h.row, h.cap, fun n hn => by rw [← hF n hn]; exact h.steps n hn, fun n hn => by rw [← hF n hn]; exact h.ends n hn, h.words, h.lefts⟩
theorem TS.no_word (h : TS w m A c l F LW LL) (x : Rl) (h5 : ¬ x.f0 = 5) : TS w m A c l F (LW ++ [x]) LL := by
 obtain ⟨k, hk, hL⟩ := h.words
 refine ⟨h.obj, h.row, h.cap, h.steps, h.ends, ⟨k, by rw [List.length_append]; omega, ?_⟩, h.lefts⟩
 have e : wordF (LW ++ [x]) = wordF LW := by
  funext j
  unfold wordF
  rw [lastI_snoc, if_neg (by unfold wordP; simp [h5])]
 rw [e]
 exact hL
theorem TS.put_row (h : TS w m A c l F LW LL) (n : Nat) (hn : n < 4) (s : List UInt8) (r : Int) (k : Nat) (hT : Two w w' (m + 4 + 3 * n) (m + 5 + 3 * n)) (hk : k ≤ (F n).length)
  (hs : Steps w' (m + 4 + 3 * n) ((build (F n)).put s r).st ((build (F n)).put s r).n) (he : ∃ k', k' ≤ k + 1 ∧ Ends w' (m + 5 + 3 * n) ((build (F n)).put s r).en k') (F' : Nat → List (List UInt8 × Int)) (hF : F' n = F n ++ [(s, r)]) (hO : ∀ i, i ≠ n → F' i = F i) : TS w' m A c l F' LW LL := by
 obtain ⟨es, cl, hb1⟩ := MapI.is (h.steps n hn)
 obtain ⟨k0, hk0, hE⟩ := h.ends n hn
 obtain ⟨es2, cl2, hb2⟩ := MapI.is hE
 have hb : build (F' n) = (build (F n)).put s r := by rw [hF, build_snoc]
 have mv : ∀ {i : Nat}, i < w.heap.size → i ≠ m + 4 + 3 * n → i ≠ m + 5 + 3 * n → w'.heap[i]? = w.heap[i]? := fun {i} hi h1 h2 => hT.block i hi h1 h2
 refine ⟨(mv h.lt (by omega) (by omega)).trans h.obj, rules_kept h.row (fun i cells t fr hi => mv (Array.getElem?_eq_some_iff.1 hi).1 (map_ne hb1 hi) (map_ne hb2 hi)), h.cap, fun i hi => ?_, fun i hi => ?_, ?_, ?_⟩
 ·
  by_cases e : i = n
  ·
   subst e
   rw [hb]
   exact hs
  ·
   rw [hO i e]
   exact (h.steps i hi).move (mv (MapI.lt (h.steps i hi)) (by omega) (by omega))
 ·
  by_cases e : i = n
  ·
   subst e
   obtain ⟨k', hk', he⟩ := he
   rw [hb, hF]
   exact ⟨k', by rw [List.length_append, List.length_singleton]; omega, he⟩
  ·
   rw [hO i e]
   obtain ⟨k2, hk2, he2⟩ := h.ends i hi
   exact ⟨k2, hk2, he2.move (mv (MapI.lt he2) (by omega) (by omega))⟩
 ·
  obtain ⟨k, hk, he⟩ := h.words
  exact ⟨k, hk, MapI.move he (mv (MapI.lt he) (by omega) (by omega))⟩
 ·
  obtain ⟨k, hk, he⟩ := h.lefts
  exact ⟨k, hk, MapI.move he (mv (MapI.lt he) (by omega) (by omega))⟩
end
theorem add_block (a : Addr) (j : Nat) : (a.add j).block = a.block := by
 unfold Addr.add
 split <;> rfl
theorem rules_at {w w' : World} {A : Option Addr} {n : Nat} {l : List Rl} (h : Kd.C k50 w A n l) (hk : ∀ ad, A = some ad → ad.block < w.heap.size → w'.heap[ad.block]? = w.heap[ad.block]?) : Kd.C k50 w' A n l := by
 refine ⟨h.1, h.2.1, fun hn => ?_⟩
 obtain ⟨ad, e, hh⟩ := h.2.2 hn
 refine ⟨ad, e, fun j p hj => ?_⟩
 obtain ⟨c, hs, hr, hcell⟩ := hh j p hj
 have := k50_open hr
 subst this
 refine ⟨_, hs, k50_mk w' p, fun i u hu => ?_⟩
 have h1 := hcell i u hu
 have hlt := World.block_lt_of_cell? w _ h1
 rw [add_block] at hlt
 have h2 := hk ad e hlt
 unfold World.cell? at h1 ⊢
 rw [add_block] at h1 ⊢
 rw [h2]
 exact h1
theorem TS.fresh {w w' : World} {m c B : Nat} {A : Option Addr} {l LW LL : List Rl} {F : Nat → List (List UInt8 × Int)} (h : TS w m A c l F LW LL) (hm : B ≤ m) (hA : ∀ ad, A = some ad → B ≤ ad.block) (hk : ∀ k, B ≤ k → k < w.heap.size → w'.heap[k]? = w.heap[k]?) : TS w' m A c l F LW LL := by
 refine ⟨(hk _ (by omega) h.lt).trans h.obj, rules_at h.row (fun ad e hlt => hk _ (hA ad e) hlt), h.cap, fun n hn => (h.steps n hn).move (hk _ (by omega) (MapI.lt (h.steps n hn))), fun n hn => ?_, ?_, ?_⟩
 ·
  obtain ⟨k, hk2, he⟩ := h.ends n hn
  exact ⟨k, hk2, he.move (hk _ (by omega) (MapI.lt he))⟩
 ·
  obtain ⟨k, hk2, he⟩ := h.words
  exact ⟨k, hk2, MapI.move he (hk _ (by omega) (MapI.lt he))⟩
 ·
  obtain ⟨k, hk2, he⟩ := h.lefts
  exact ⟨k, hk2, MapI.move he (hk _ (by omega) (MapI.lt he))⟩
theorem below_two {B : Nat} {w w1 w2 : World} {s e : Nat} (h : Below B w w1) (hT : Two w1 w2 s e) (hB : B ≤ w1.heap.size) (hs : B ≤ s) (he : B ≤ e) : Below B w w2 :=
 ⟨hT.os.trans h.os, hT.tape.trans h.tape, hT.output.trans h.output, Nat.le_trans h.size hT.size, fun k hk => (hT.block k (by omega) (by omega) (by omega)).trans (h.block k hk)⟩
theorem below_turned {B : Nat} {w w1 w2 : World} {b : Nat} (h : Below B w w1) (hT : w1.mapTurned w2 b) (hB : B ≤ w1.heap.size) (hb : B ≤ b) : Below B w w2 := h.grown hT.grown hB (fun k e => by cases e; exact hb)
end Go.Proofs.YtbpbniemjjhecaaGreat.G
end
section
namespace Go.Proofs.YtbpbniemjjhecaaGreat.G
set_option linter.unusedVariables false
set_option linter.unusedSimpArgs false
open Go.RowKit Go.Maps Go.Proofs.YtbpbniemjjhecaaGreat.GM Go.Proofs.YtbpbniemjjhecaaGreat.GT Go.Proofs.YtbpbniemjjhecaaGreat.PChk Go.Proofs.YtbpbniemjjhecaaGreat.PureC Go.Proofs.YtbpbniemjjhecaaGreatW.PrintWords Go.Proofs.YtbpbniemjjhecaaGreatW.PrintLast Go.Proofs.YtbpbniemjjhecaaGreatW.PrintMore
theorem made_at {ι : Type} {K E : TypeId} {key : ι → Value} {ok : ι → Prop} {w : World} {b : Nat} (hb : w.heap[b]? = some (.map #[] 0)) (hk : ∀ i, ok i → ∃ kl, keyOf Tryz.prog K (key i) = some kl) : MapI Tryz.prog K E key ok w b (fun _ => none) 0 := by
 obtain ⟨D, ⟨es, c, h1, h2⟩, h3⟩ := MapI.made (E := E) w hk
 rw [heap_alloc_new] at h1
 have h1 := Option.some.inj h1
 injection h1 with h4 h5
 subst h4 h5
 exact ⟨D, ⟨#[], 0, hb, h2⟩, h3⟩
def mapV (b : Bool) (k : Nat) : Value := if b = true then .map (some k) else .map none
def cellsJ (A : Option Addr) (n c m j : Nat) : Array Value := #[.slice A n c, mapV (decide (0 < j)) (m + 4), mapV (decide (0 < j)) (m + 5), mapV (decide (1 < j)) (m + 7), mapV (decide (1 < j)) (m + 8), mapV (decide (2 < j)) (m + 10), mapV (decide (2 < j)) (m + 11), mapV (decide (3 < j)) (m + 13), mapV (decide (3 < j)) (m + 14), .map (some m), .map (some (m + 1))]
structure PS (w2 w : World) (m : Nat) (A : Option Addr) (c : Nat) (l : List Rl) (j : Nat) : Prop where
 obj : w.heap[m + 2]? = some (.cells (cellsJ A l.length c m j) 73)
 size : w.heap.size = m + 3 + 3 * j
 words : w.heap[m]? = some (.map #[] 0)
 lefts : w.heap[m + 1]? = some (.map #[] 0)
 rows : ∀ n, n < j → w.heap[m + 4 + 3 * n]? = some (.map #[] 0) ∧ w.heap[m + 5 + 3 * n]? = some (.map #[] 0)
 row : Kd.C k50 w2 A l.length l
 cap : l.length ≤ c
 base : w2.heap.size = m
 bel : Below m w2 w
theorem PS.full {w2 w : World} {m c : Nat} {A : Option Addr} {l : List Rl} (h : PS w2 w m A c l 4) : TS w m A c l (fun _ => []) [] [] :=
 ⟨h.obj, Kd.C_below h.row (by rw [h.base]; exact h.bel), h.cap, fun n hn => made_at (h.rows n hn).1 edge_key, fun n hn => ⟨0, Nat.le_refl _, made_at (h.rows n hn).2 int_key⟩, ⟨0, Nat.le_refl _, made_at h.words text_key⟩, ⟨0, Nat.le_refl _, made_at h.lefts side_key⟩⟩
theorem heap_set_same {w : World} {b i : Nat} {cs : Array Value} {t : TypeId} {fr : Nat × Nat} (h : w.heap[b]? = some (.cells cs t fr)) (v : Value) : (w.setCell ⟨b, i, none⟩ v).heap[b]? = some (.cells (cs.setIfInBounds i v) t fr) := by
 have hlt := (Array.getElem?_eq_some_iff.1 h).1
 simp [World.setCell, Array.getElem?_modify, h]
theorem PS.next {w2 w w' : World} {m c j : Nat} {A : Option Addr} {l : List Rl} (h : PS w2 w m A c l j) (hj : j < 4) (hb : Below w.heap.size w w') (hz : w'.heap.size = w.heap.size + 3) (h1 : w'.heap[w.heap.size + 1]? = some (.map #[] 0)) (h2 : w'.heap[w.heap.size + 2]? = some (.map #[] 0)) :
  PS w2 ((w'.setCell ⟨m + 2, 1 + 2 * j, none⟩ (.map (some (m + 4 + 3 * j)))).setCell ⟨m + 2, 2 + 2 * j, none⟩ (.map (some (m + 5 + 3 * j)))) m A c l (j + 1) := by
 have hs := h.size
 have ho : w'.heap[m + 2]? = some (.cells (cellsJ A l.length c m j) 73) := (hb.block (m + 2) (by omega)).trans h.obj
 have mv : ∀ {i : Nat}, i ≠ m + 2 → ((w'.setCell ⟨m + 2, 1 + 2 * j, none⟩ (.map (some (m + 4 + 3 * j)))).setCell ⟨m + 2, 2 + 2 * j, none⟩ (.map (some (m + 5 + 3 * j)))).heap[i]? = w'.heap[i]? := fun {i} hi => by
  rw [Below.heap_setCell _ _ _ _ (by exact hi), Below.heap_setCell _ _ _ _ (by exact hi)]
 refine ⟨?_, by simp [World.setCell]; omega, (mv (by omega)).trans ((hb.block m (by omega)).trans h.words), (mv (by omega)).trans ((hb.block (m + 1) (by omega)).trans h.lefts), fun n hn => ?_, h.row, h.cap, h.base, ?_⟩
 ·
  rw [heap_set_same (heap_set_same ho _) _]
  congr 2
  obtain rfl | rfl | rfl | rfl : j = 0 ∨ j = 1 ∨ j = 2 ∨ j = 3 := by omega
  all_goals rfl
 ·
  by_cases e : n = j
  ·
   subst e
   refine ⟨(mv (by omega)).trans ?_, (mv (by omega)).trans ?_⟩
   ·
    rw [show m + 4 + 3 * n = w.heap.size + 1 from by omega]; exact h1
   ·
    rw [show m + 5 + 3 * n = w.heap.size + 2 from by omega]; exact h2
  ·
   have h3 := h.rows n (by omega)
   exact ⟨(mv (by omega)).trans ((hb.block _ (by omega)).trans h3.1), (mv (by omega)).trans ((hb.block _ (by omega)).trans h3.2)⟩
 ·
  exact ((below_then h.bel (by omega) hb).setCell (p := ⟨m + 2, 1 + 2 * j, none⟩) (by simp) _).setCell (p := ⟨m + 2, 2 + 2 * j, none⟩) (by simp) _
end Go.Proofs.YtbpbniemjjhecaaGreat.G
end
