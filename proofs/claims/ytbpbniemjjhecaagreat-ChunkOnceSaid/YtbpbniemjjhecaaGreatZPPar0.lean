import Derived.Test.YtbpbniemjjhecaaGreatZGTrieNew
import Derived.Test.YtbpbniemjjhecaaGreatZPureChkAwake
import Derived.Test.YtbpbniemjjhecaaGreatZGTrieNew2
import Derived.Test.YtbpbniemjjhecaaGreatZPChk0
import Derived.Test.YtbpbniemjjhecaaGreatProg
import Derived.Below
import Derived.Deep.Draws
import Derived.Deep.AppendLies
import Derived.Maps.AppendAt
import Derived.OwnWalk
import Derived.Laws.BytesArg
import Derived.Laws.MakeOwn
import Derived.Laws.OwnMore
import Derived.Deep.OwnRows
import Derived.Tactics
import Derived.Lib.ConvBytes
import Derived.Laws.Slices
import Derived.WalkKit
import Derived.KernelRfl
import Derived.RowKit3
import Derived.Deep.LoopGhost
import Derived.Deep.QuietTactic
import Derived.BigQuiet
import Derived.WideLaws
import Derived.Deep.DeepCutAuto
import Derived.Deep.CutBlock
import Derived.Deep.RegionHeld3
import Derived.Laws.Rows
import Derived.Lib.AppendStr
import Derived.ArgAppend
import Derived.Laws.IdiomCopy
import Derived.OrdersHeld
import Derived.Laws.BitsLemmas
import Derived.RowKit
import Derived.Test.YtbpbniemjjhecaaGreatZGCharsCase
import Derived.Test.YtbpbniemjjhecaaGreatZGTail
import Derived.Test.YtbpbniemjjhecaaGreatZWSized
section
namespace Go.Proofs.YtbpbniemjjhecaaGreat.PureC
open Go.RowKit Go.Proofs.YtbpbniemjjhecaaGreat.PChk Go.Proofs.YtbpbniemjjhecaaGreat.G Go.Proofs.YtbpbniemjjhecaaGreat.GT Go.Proofs.YtbpbniemjjhecaaGreatW.PrintWords Go.Proofs.YtbpbniemjjhecaaGreatW.PrintLast
set_option linter.unusedSimpArgs false
set_option maxRecDepth 100000
theorem base_short : ∀ x ∈ baseL, Short x := by
 have h : baseL.all (fun x => decide (x.f1.size ≤ 50) && decide (x.f2.size ≤ 50)) = true := by decide +kernel
 intro x hx
 have h2 := List.all_eq_true.1 h x hx
 simp only [Bool.and_eq_true, decide_eq_true_eq] at h2
 exact h2
theorem base_n : baseL.length = 106 := by decide +kernel
theorem base_apart : Apart baseL := ((table_ok baseL (by rw [base_n]; omega) base_short 0 0 base_table).1 rfl).1
theorem new_apart (l : List Rl) (hl : l.length ≤ 450) (hs : ∀ x ∈ l, Short x) (h : tableB l = (0, 0)) : trie_New.f l = some (some (some l), 0, 0) ∧ Apart l := by
 have ht := table_check l (by omega) hs
 rw [h] at ht
 have ha := ((table_ok l (by omega) hs 0 0 ht).1 rfl).1
 refine ⟨?_, ha⟩
 unfold trie_New.f
 rw [ht, Option.bind_some, if_pos rfl, if_pos ⟨fit_apart l ha hl hs, rfl⟩]
theorem new_not (l : List Rl) (hl : l.length ≤ 450) (hs : ∀ x ∈ l, Short x) (h : (tableB l).2 ≠ 0) : trie_New.f l = some (none, (tableB l).1, (tableB l).2) := by
 unfold trie_New.f
 rw [table_check l (by omega) hs, Option.bind_some, if_neg h]
theorem table_two (l : List Rl) : tableB l = (0, 0) ∨ (tableB l).2 ≠ 0 := by
 unfold tableB lastB
 cases tabB [] l with
 | some n => exact Or.inr (by simp)
 | none =>
  simp only
  split
  ·
   exact Or.inr (by simp)
  ·
   split
   ·
    exact Or.inl rfl
   ·
    exact Or.inr (by simp)
theorem base_new : trie_New.f baseL = some (some (some baseL), 0, 0) := by
 unfold trie_New.f
 rw [base_table, Option.bind_some, if_pos rfl, if_pos ⟨fit_apart baseL base_apart (by rw [base_n]; omega) base_short, rfl⟩]
end Go.Proofs.YtbpbniemjjhecaaGreat.PureC
end
section
namespace Go.Proofs.YtbpbniemjjhecaaGreat.PureC
open Go.RowKit Go.Proofs.YtbpbniemjjhecaaGreat.PChk Go.Proofs.YtbpbniemjjhecaaGreat.G Go.Proofs.YtbpbniemjjhecaaGreat.GT Go.Proofs.YtbpbniemjjhecaaGreatW.PrintWords Go.Proofs.YtbpbniemjjhecaaGreatW.PrintLast
set_option linter.unusedSimpArgs false
theorem fst_at (p : Rl → Bool) (l : List Rl) (h : One p l) (i : Nat) (x : Rl) (hx : l[i]? = some x) (hp : p x = true) : fstI p l 0 = some (i : Int) := by
 cases h2 : fstI p l 0 with
 | none =>
  have := fst_none p l 0 h2 x (List.mem_of_getElem? hx)
  rw [this] at hp
  cases hp
 | some r =>
  obtain ⟨j, y, h5, h6, rfl⟩ := fst_some p l 0 r h2
  rw [h i j x y hx h5 hp h6]
  simp
theorem found_left {l : List Rl} (h : Apart l) (i : Nat) (x : Rl) (hx : l[i]? = some x) : findO (some (some l)) x.f0 x.f1 = some (i : Int) := by
 rw [find_plain h]
 exact fst_at _ l (left_one h _) i x hx (by unfold leftP; exact decide_eq_true rfl)
theorem found_sign {l : List Rl} (h : Apart l) (i : Nat) (x : Rl) (hx : l[i]? = some x) (h8 : x.f0 = 8) : signO (some (some l)) x.f1 = x.f2 := by
 have hf := found_left h i x hx
 rw [h8] at hf
 unfold signO
 rw [hf, Option.bind_some, show (some (some l)).join = some l from rfl, Option.bind_some, show ((i : Int)).toNat = i from by omega, hx]
 rfl
end Go.Proofs.YtbpbniemjjhecaaGreat.PureC
end
section
namespace Go.Proofs.YtbpbniemjjhecaaGreat.PureC
open Go.RowKit Go.Proofs.YtbpbniemjjhecaaGreat.PChk Go.Proofs.YtbpbniemjjhecaaGreat.G Go.Proofs.YtbpbniemjjhecaaGreat.GT Go.Proofs.YtbpbniemjjhecaaGreatW.PrintWords Go.Proofs.YtbpbniemjjhecaaGreatW.PrintLast
set_option linter.unusedSimpArgs false
def mayP (sz : Nat) (a what n : Int) : Bool := if what = 1 then true else if what = 2 then a == 0 else if what = 3 then decide (a > 0) else if what = 4 then decide (a > 0) && a + n == (sz : Int) else false
def candO (l : List Rl) (run : ByteArray) (a : Int) (p : Int × Int) : Option Int := if mayP run.size a p.2 p.1 = true then leftF l (p.2, run.extract a.toNat (a + p.1).toNat) else none
def overP (x : Rl) (i : Int) (y : Rl) (j : Int) : Bool := if x.f3 ≠ y.f3 then decide (x.f3 < y.f3) else if x.f1.size ≠ y.f1.size then decide (x.f1.size > y.f1.size) else decide (i < j)
def takeO (l : List Rl) (st : Option (Rl × Int)) (i : Int) : Option (Rl × Int) := match l[i.toNat]? with
 | none => st
 | some x => match st with
  | none => some (x, i)
  | some (y, j) => if overP x i y j = true then some (x, i) else some (y, j)
def stepO (l : List Rl) (run : ByteArray) (a : Int) (st : Option (Rl × Int)) (p : Int × Int) : Option (Rl × Int) := match candO l run a p with
 | none => st
 | some i => takeO l st i
def pairsN (m : Nat) : List (Int × Int) := (List.range m).flatMap fun (n : Nat) => [((n : Int) + 1, (1 : Int)), ((n : Int) + 1, 2), ((n : Int) + 1, 3), ((n : Int) + 1, 4)]
theorem pairsN_snoc (m : Nat) : pairsN (m + 1) = pairsN m ++ [((m : Int) + 1, (1 : Int)), ((m : Int) + 1, 2), ((m : Int) + 1, 3), ((m : Int) + 1, 4)] := by simp [pairsN, List.range_succ, List.flatMap_append]
def bestS (l : List Rl) (run : ByteArray) (a : Int) (m : Nat) : Option (Rl × Int) := (pairsN m).foldl (stepO l run a) none
theorem mem_pairs (m : Nat) (n what : Int) : (n, what) ∈ pairsN m ↔ 1 ≤ n ∧ n ≤ m ∧ 1 ≤ what ∧ what ≤ 4 := by
 unfold pairsN
 rw [List.mem_flatMap]
 constructor
 ·
  rintro ⟨k, hk, h⟩
  rw [List.mem_range] at hk
  simp only [List.mem_cons, List.not_mem_nil, or_false, Prod.mk.injEq] at h
  omega
 ·
  rintro ⟨h1, h2, h3, h4⟩
  refine ⟨(n - 1).toNat, List.mem_range.2 (by omega), ?_⟩
  simp only [List.mem_cons, List.not_mem_nil, or_false, Prod.mk.injEq]
  omega
theorem over_trans (x y z : Rl) (i j k : Int) (h1 : overP x i y j = false) (h2 : overP y j z k = false) : overP x i z k = false := by
 unfold overP at *
 by_cases a1 : x.f3 = y.f3
 ·
  rw [if_neg (by simp [a1])] at h1
  by_cases a2 : y.f3 = z.f3
  ·
   rw [if_neg (by simp [a2])] at h2
   rw [if_neg (by simp [a1, a2])]
   by_cases b1 : x.f1.size = y.f1.size
   ·
    rw [if_neg (by simp [b1])] at h1
    by_cases b2 : y.f1.size = z.f1.size
    ·
     rw [if_neg (by simp [b2])] at h2
     rw [if_neg (by simp [b1, b2])]
     simp only [decide_eq_false_iff_not] at *
     omega
    ·
     rw [if_pos (by simpa using b2)] at h2
     rw [if_pos (by rw [b1]; simpa using b2)]
     simp only [decide_eq_false_iff_not] at *
     omega
   ·
    rw [if_pos (by simpa using b1)] at h1
    by_cases b2 : y.f1.size = z.f1.size
    ·
     rw [if_neg (by simp [b2])] at h2
     rw [if_pos (by rw [← b2]; simpa using b1)]
     simp only [decide_eq_false_iff_not] at *
     omega
    ·
     rw [if_pos (by simpa using b2)] at h2
     simp only [decide_eq_false_iff_not] at h1 h2
     rw [if_pos (by omega)]
     simp only [decide_eq_false_iff_not]
     omega
  ·
   rw [if_pos (by simpa using a2)] at h2
   rw [if_pos (by rw [a1]; simpa using a2)]
   simp only [decide_eq_false_iff_not] at *
   omega
 ·
  rw [if_pos (by simpa using a1)] at h1
  by_cases a2 : y.f3 = z.f3
  ·
   rw [if_pos (by rw [← a2]; simpa using a1)]
   simp only [decide_eq_false_iff_not] at *
   omega
  ·
   rw [if_pos (by simpa using a2)] at h2
   simp only [decide_eq_false_iff_not] at h1 h2
   rw [if_pos (by omega)]
   simp only [decide_eq_false_iff_not]
   omega
theorem over_self (x : Rl) (i : Int) : overP x i x i = false := by simp [overP]
theorem over_asym (x y : Rl) (i j : Int) (h : overP x i y j = true) : overP y j x i = false := by
 unfold overP at *
 by_cases a1 : x.f3 = y.f3
 ·
  rw [if_neg (by simp [a1])] at h
  rw [if_neg (by simp [a1])]
  by_cases b1 : x.f1.size = y.f1.size
  ·
   rw [if_neg (by simp [b1])] at h
   rw [if_neg (by simp [b1])]
   simp only [decide_eq_true_eq, decide_eq_false_iff_not] at *
   omega
  ·
   rw [if_pos (by simpa using b1)] at h
   rw [if_pos (by simpa using fun e => b1 e.symm)]
   simp only [decide_eq_true_eq, decide_eq_false_iff_not] at *
   omega
 ·
  rw [if_pos (by simpa using a1)] at h
  rw [if_pos (by simpa using fun e => a1 e.symm)]
  simp only [decide_eq_true_eq, decide_eq_false_iff_not] at *
  omega
structure Least (l : List Rl) (run : ByteArray) (a : Int) (ps : List (Int × Int)) (st : Option (Rl × Int)) : Prop where
 none : st = none → ∀ p ∈ ps, candO l run a p = none
 some : ∀ x i, st = some (x, i) → l[i.toNat]? = some x ∧ 0 ≤ i ∧ (∃ p ∈ ps, candO l run a p = some i) ∧ ∀ p ∈ ps, ∀ j y, candO l run a p = some j → l[j.toNat]? = some y → overP y j x i = false
theorem cand_at (l : List Rl) (run : ByteArray) (a : Int) (p : Int × Int) (i : Int) (h : candO l run a p = some i) : 0 ≤ i ∧ ∃ x, l[i.toNat]? = some x ∧ x.f0 = p.2 ∧ x.f1 = run.extract a.toNat (a + p.1).toNat ∧ mayP run.size a p.2 p.1 = true := by
 unfold candO at h
 by_cases hm : mayP run.size a p.2 p.1 = true
 ·
  rw [if_pos hm] at h
  obtain ⟨j, x, h1, h2, rfl⟩ := lastI_some _ l i h
  unfold leftP at h2
  rw [decide_eq_true_eq, Prod.mk.injEq] at h2
  exact ⟨by omega, x, by simpa using h1, h2.1, h2.2, hm⟩
 ·
  rw [if_neg hm] at h
  cases h
theorem least_step (l : List Rl) (run : ByteArray) (a : Int) (ps : List (Int × Int)) (st : Option (Rl × Int)) (p : Int × Int) (h : Least l run a ps st) : Least l run a (ps ++ [p]) (stepO l run a st p) := by
 unfold stepO
 cases hc : candO l run a p with
 | none =>
  refine ⟨fun e q hq => ?_, fun x i e => ?_⟩
  ·
   rcases List.mem_append.1 hq with hq | hq
   ·
    exact h.none e q hq
   ·
    rw [List.mem_singleton.1 hq]; exact hc
  ·
   obtain ⟨h1, h2, ⟨q, hq, h3⟩, h4⟩ := h.some x i e
   refine ⟨h1, h2, ⟨q, List.mem_append_left _ hq, h3⟩, fun q hq j y hj hy => ?_⟩
   rcases List.mem_append.1 hq with hq | hq
   ·
    exact h4 q hq j y hj hy
   ·
    rw [List.mem_singleton.1 hq, hc] at hj
    cases hj
 | some i =>
  obtain ⟨hi0, x, hx, _⟩ := cand_at l run a p i hc
  show Least l run a (ps ++ [p]) (takeO l st i)
  unfold takeO
  rw [hx]
  cases st with
  | none =>
   refine ⟨fun e => (by cases e), fun z k e => ?_⟩
   simp only [Option.some.injEq, Prod.mk.injEq] at e
   obtain ⟨rfl, rfl⟩ := e
   refine ⟨hx, hi0, ⟨p, List.mem_append_right _ (List.mem_singleton.2 rfl), hc⟩, fun q hq j y hj hy => ?_⟩
   rcases List.mem_append.1 hq with hq | hq
   ·
    rw [h.none rfl q hq] at hj
    cases hj
   ·
    rw [List.mem_singleton.1 hq, hc] at hj
    obtain rfl := Option.some.inj hj
    rw [hx] at hy
    obtain rfl := Option.some.inj hy
    exact over_self _ _
  | some d =>
   obtain ⟨y, j⟩ := d
   obtain ⟨h1, h2, ⟨q0, hq0, h3⟩, h4⟩ := h.some y j rfl
   simp only
   by_cases ho : overP x i y j = true
   ·
    rw [if_pos ho]
    refine ⟨fun e => (by cases e), fun z k e => ?_⟩
    simp only [Option.some.injEq, Prod.mk.injEq] at e
    obtain ⟨rfl, rfl⟩ := e
    refine ⟨hx, hi0, ⟨p, List.mem_append_right _ (List.mem_singleton.2 rfl), hc⟩, fun q hq j2 y2 hj hy => ?_⟩
    rcases List.mem_append.1 hq with hq | hq
    ·
     exact over_trans _ _ _ _ _ _ (h4 q hq j2 y2 hj hy) (over_asym _ _ _ _ ho)
    ·
     rw [List.mem_singleton.1 hq, hc] at hj
     obtain rfl := Option.some.inj hj
     rw [hx] at hy
     obtain rfl := Option.some.inj hy
     exact over_self _ _
   ·
    rw [if_neg ho]
    refine ⟨fun e => (by cases e), fun z k e => ?_⟩
    simp only [Option.some.injEq, Prod.mk.injEq] at e
    obtain ⟨rfl, rfl⟩ := e
    refine ⟨h1, h2, ⟨q0, List.mem_append_left _ hq0, h3⟩, fun q hq j2 y2 hj hy => ?_⟩
    rcases List.mem_append.1 hq with hq | hq
    ·
     exact h4 q hq j2 y2 hj hy
    ·
     rw [List.mem_singleton.1 hq, hc] at hj
     obtain rfl := Option.some.inj hj
     rw [hx] at hy
     obtain rfl := Option.some.inj hy
     exact Bool.eq_false_iff.2 ho
theorem least_fold (l : List Rl) (run : ByteArray) (a : Int) : ∀ (qs ps : List (Int × Int)) (st : Option (Rl × Int)), Least l run a ps st → Least l run a (ps ++ qs) (qs.foldl (stepO l run a) st)
 | [], ps, st, h => by rw [List.append_nil]; exact h
 | q :: qs, ps, st, h => by
  have h2 := least_fold l run a qs (ps ++ [q]) _ (least_step l run a ps st q h)
  rw [List.append_assoc] at h2
  exact h2
theorem best_least (l : List Rl) (run : ByteArray) (a : Int) (m : Nat) : Least l run a (pairsN m) (bestS l run a m) := by
 have h := least_fold l run a (pairsN m) [] none ⟨fun _ p hp => (by cases hp), fun x i e => (by cases e)⟩
 exact h
end Go.Proofs.YtbpbniemjjhecaaGreat.PureC
end
section
namespace Go.Proofs.YtbpbniemjjhecaaGreat.PChk
open Go.RowKit Go.Proofs.YtbpbniemjjhecaaGreat.G Go.Proofs.YtbpbniemjjhecaaGreat.PChk Go.Proofs.YtbpbniemjjhecaaGreatW.PrintWords Go.Proofs.YtbpbniemjjhecaaGreatW.PrintLast Go.Proofs.YtbpbniemjjhecaaGreatW.PrintMore
attribute [local go_sem] max2_int min2_int max_two min_two max_three min_three max_four min_four
set_option linter.unusedVariables false
set_option linter.unusedSimpArgs false
end Go.Proofs.YtbpbniemjjhecaaGreat.PChk
end
