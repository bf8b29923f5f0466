import Derived.Test.YtbpbniemjjhecaaZPurePart2
import Derived.Test.YtbpbniemjjhecaaZGPartAwake
section
namespace Go.Proofs.Ytbpbniemjjhecaa.PureC
open Go.RowKit Go.Proofs.Ytbpbniemjjhecaa.PChk Go.Proofs.Ytbpbniemjjhecaa.G Go.Proofs.Ytbpbniemjjhecaa.GT Go.Proofs.YtbpbniemjjhecaaW.PrintWords Go.Proofs.YtbpbniemjjhecaaW.PrintLast
set_option linter.unusedSimpArgs false
theorem bytes_ext {a b : ByteArray} (h : a.toList = b.toList) : a = b := by
 rw [toList_data, toList_data] at h
 exact ByteArray.ext (Array.toList_inj.1 h)
theorem letter_rule {l : List Rl} (hw : Whole l) (c : UInt8) (h1 : 97 ≤ c.toNat) (h2 : c.toNat ≤ 122) : ∃ x ∈ l, x.f0 = 1 ∧ x.f1 = ⟨#[c]⟩ := by
 have hm : wRule 1 ⟨#[c]⟩ ∈ wantedL := by
  unfold wantedL
  refine List.mem_append_left _ (List.mem_append_left _ (List.mem_append_left _ ?_))
  unfold wBytes upB
  refine List.mem_map.2 ⟨c, List.mem_map.2 ⟨c.toNat - 97, List.mem_range.2 (by omega), ?_⟩, rfl⟩
  rw [show 97 + (c.toNat - 97) = c.toNat from by omega]
  simp
 have h := hw _ hm
 rw [List.any_eq_true] at h
 obtain ⟨x, hx, he⟩ := h
 unfold isOf at he
 rw [Bool.and_eq_true, beq_iff_eq, beq_iff_eq] at he
 exact ⟨x, hx, he.1, bytes_ext he.2⟩
theorem one_at (s : ByteArray) (i : Nat) (h : i < s.size) : s.extract i (i + 1) = (⟨#[s[i]]⟩ : ByteArray) := by
 apply ByteArray.ext
 apply Array.ext
 ·
  simp; omega
 ·
  intro j h1 h2
  simp at h2
  subst h2
  simp [ByteArray.getElem_eq_getElem_data]
theorem small_at {s : ByteArray} (h : smallB s = true) (i : Nat) (hi : i < s.size) : 97 ≤ s[i].toNat ∧ s[i].toNat ≤ 122 := by
 unfold smallB at h
 rw [List.all_eq_true] at h
 have h1 := h s[i] (by rw [ByteArray.getElem_eq_getElem_data]; exact Array.mem_toList_iff.2 (Array.getElem_mem _))
 rw [beq_iff_eq] at h1
 unfold classN at h1
 split at h1
 ·
  omega
 ·
  exfalso
  repeat' split at h1
  all_goals omega
theorem spot_small {run : ByteArray} {a : Int} (hs : run.size ≤ 140737488351232) (h : spotB run a = true) : smallB run = true := by
 unfold spotB at h
 by_cases hc : caseF run = 1
 ·
  have h1 := case_small run hs
  rw [hc] at h1
  have h2 := h1.symm
  rw [show ((1 : Int) == 1) = true from rfl, Bool.and_eq_true] at h2
  exact h2.2
 ·
  rw [if_neg hc] at h
  cases h
theorem upTo_pos {run : ByteArray} {a most : Int} (h1 : a < run.size) (hm : 0 < most) : 1 ≤ upTo run a most := by
 unfold upTo mn
 split <;> omega
theorem upTo_zero {run : ByteArray} {a most : Int} (h1 : a < run.size) (hm : most ≤ 0) : upTo run a most = 0 := by
 unfold upTo mn
 split <;> omega
theorem best_some {l : List Rl} (hw : Whole l) {run : ByteArray} {a most : Int} (hs : run.size ≤ 140737488351232) (h : spotB run a = true) (hm : 0 < most) : ∃ x i, bestS l run a (upTo run a most) = some (x, i) := by
 obtain ⟨h0, h1⟩ := spotB_at h
 have hsm := spot_small hs h
 obtain ⟨n, rfl⟩ : ∃ n : Nat, a = (n : Int) := ⟨a.toNat, by omega⟩
 have hn : n < run.size := by omega
 obtain ⟨c1, c2⟩ := small_at hsm n hn
 obtain ⟨y, hy, y0, y1⟩ := letter_rule hw run[n] c1 c2
 cases hb : bestS l run (n : Int) (upTo run (n : Int) most) with
 | some d => exact ⟨d.1, d.2, rfl⟩
 | none =>
  exfalso
  have h2 := (best_least l run (n : Int) (upTo run (n : Int) most)).none hb (1, 1) ((mem_pairs _ _ _).2 ⟨by omega, by have := upTo_pos h1 hm; omega, by omega, by omega⟩)
  unfold candO at h2
  rw [if_pos (by unfold mayP; rw [if_pos rfl])] at h2
  have h3 := lastI_none _ l h2 y hy
  unfold leftP at h3
  rw [decide_eq_false_iff_not] at h3
  refine h3 ?_
  rw [y0, y1]
  congr 1
  rw [show ((n : Int)).toNat = n from rfl, show ((n : Int) + 1).toNat = n + 1 from by omega, one_at run n hn]
theorem best_none {l : List Rl} {run : ByteArray} {a most : Int} (h1 : a < run.size) (hm : most ≤ 0) : bestS l run a (upTo run a most) = none := by
 rw [upTo_zero h1 hm]
 rfl
theorem bestO_is {l : List Rl} (hw : Whole l) {run : ByteArray} {a most : Int} (hs : run.size ≤ 140737488351232) : (bestO l run a most).isSome = (spotB run a && decide (0 < most)) := by
 unfold bestO
 cases h : spotB run a with
 | false => rfl
 | true =>
  rw [if_pos rfl, Bool.true_and]
  by_cases hm : 0 < most
  ·
   obtain ⟨x, i, e⟩ := best_some hw hs h hm
   rw [e, decide_eq_true hm]
   rfl
  ·
   rw [best_none (spotB_at h).2 (by omega), decide_eq_false hm]
   rfl
def eligP (x : Rl) (run : ByteArray) (a most : Int) : Bool := spotB run a && decide (0 < x.f1.size) && decide ((x.f1.size : Int) ≤ mn most ((run.size : Int) - a)) && decide (run.extract a.toNat (a + (x.f1.size : Int)).toNat = x.f1) && mayP run.size a x.f0 (x.f1.size : Int)
theorem elig_best {l : List Rl} {run : ByteArray} {a most : Int} {x : Rl} {i : Int} (h : spotB run a = true) (hb : bestS l run a (upTo run a most) = some (x, i)) : eligP x run a most = true ∧ l[i.toNat]? = some x ∧ 0 ≤ i ∧ (x.f1.size : Int) ≤ most := by
 obtain ⟨h0, h1⟩ := spotB_at h
 obtain ⟨b1, b2, b3, b4, b5, b6, b7⟩ := best_at l run a most x i h0 h1 hb
 have hu : (upTo run a most : Int) ≤ mn most ((run.size : Int) - a) := by
  unfold upTo at *
  omega
 have hm : (x.f1.size : Int) ≤ mn most ((run.size : Int) - a) := by omega
 unfold eligP
 rw [h, decide_eq_true (by omega : 0 < x.f1.size), decide_eq_true hm, decide_eq_true b5.symm, b6]
 exact ⟨rfl, b1, b2, (mn_le _ _ _ hm).1⟩
theorem may_four {sz : Nat} {a what n : Int} (h : mayP sz a what n = true) : 1 ≤ what ∧ what ≤ 4 := by
 unfold mayP at h
 repeat' split at h
 all_goals first | omega | (cases h; done)
theorem alone_letters (x : Rl) (h : aloneB x = true) (h4 : x.f0 ≤ 5) : 1 ≤ x.f1.size ∧ x.f1.size ≤ 12 ∧ smallB x.f1 = true := by
 unfold aloneB mayB leftB at h
 simp only [Bool.and_eq_true] at h
 obtain ⟨⟨⟨⟨h1, h2⟩, _⟩, _⟩, _⟩ := h
 rw [decide_eq_true_eq] at h1
 rw [if_neg (by omega), if_neg (by omega), if_neg (by omega), Bool.and_eq_true, decide_eq_true_eq] at h2
 exact ⟨h2.1.1, h2.1.2, h2.2⟩
theorem elig_least {l : List Rl} (hA : Apart l) {run : ByteArray} {a most : Int} {x y : Rl} {i : Int} {j : Nat} (hb : bestS l run a (upTo run a most) = some (x, i)) (hy : l[j]? = some y) (he : eligP y run a most = true) : overP y (j : Int) x i = false := by
 unfold eligP at he
 simp only [Bool.and_eq_true, decide_eq_true_eq] at he
 obtain ⟨⟨⟨⟨h1, h2⟩, h3⟩, h4⟩, h5⟩ := he
 obtain ⟨w1, w2⟩ := may_four h5
 obtain ⟨_, hl, _⟩ := alone_letters y (hA.1 y (List.mem_of_getElem? hy)) (by omega)
 have hp : ((y.f1.size : Int), y.f0) ∈ pairsN (upTo run a most) := (mem_pairs _ _ _).2 ⟨by omega, by unfold upTo; omega, w1, w2⟩
 obtain ⟨_, _, _, hh⟩ := (best_least l run a (upTo run a most)).some x i hb
 refine hh _ hp (j : Int) y ?_ (by rw [Int.toNat_natCast]; exact hy)
 unfold candO
 rw [if_pos h5]
 show leftF l (y.f0, run.extract a.toNat (a + (y.f1.size : Int)).toNat) = _
 rw [h4]
 exact found_left hA j y hy
theorem go_out {l : List Rl} (hw : Whole l) {run : ByteArray} (hs : run.size ≤ 140737488351232) : ∀ (k : Nat) (a : Int) (out : List Int), allGo l run k a out = out ++ allGo l run k a []
 | 0, _, out => by simp [allGo]
 | k + 1, a, out => by
  unfold allGo
  cases h : spotB run a with
  | false => simp
  | true =>
   rw [if_pos rfl, if_pos rfl]
   obtain ⟨x, i, e⟩ := best_some hw hs h (by have := spotB_at h; omega : (0 : Int) < run.size)
   rw [e]
   simp only
   rw [go_out hw hs k _ (out ++ [i]), go_out hw hs k _ ([] ++ [i])]
   simp
theorem all_cons {l : List Rl} (hw : Whole l) {run : ByteArray} {a : Int} (hs : run.size ≤ 140737488351232) (h : spotB run a = true) : ∃ x i, bestS l run a (upTo run a run.size) = some (x, i) ∧ allF l run a = i :: allF l run (a + (x.f1.size : Int)) := by
 obtain ⟨h0, h1⟩ := spotB_at h
 obtain ⟨x, i, e⟩ := best_some hw hs h (by omega : (0 : Int) < run.size)
 refine ⟨x, i, e, ?_⟩
 obtain ⟨b1, b2, b3, b4, b5, b6, b7⟩ := best_at l run a run.size x i h0 h1 e
 show allGo l run (run.size + 1) a [] = _
 conv => lhs; unfold allGo
 rw [h, if_pos rfl, e]
 simp only
 rw [go_out hw hs]
 show [] ++ [i] ++ allGo l run run.size (a + (x.f1.size : Int)) [] = i :: allGo l run (run.size + 1) (a + (x.f1.size : Int)) []
 rw [allGo_more l run run.size (run.size + 1) (a + (x.f1.size : Int)) [] (by omega) (by omega) (by omega)]
 rfl
end Go.Proofs.Ytbpbniemjjhecaa.PureC
end
section
namespace Go.Proofs.Ytbpbniemjjhecaa.G
set_option linter.unusedVariables false
open Go.RowKit Go.Maps Go.Proofs.Ytbpbniemjjhecaa.GM Go.Proofs.Ytbpbniemjjhecaa.GT Go.Proofs.Ytbpbniemjjhecaa.PChk Go.Proofs.Ytbpbniemjjhecaa.PureC Go.Proofs.YtbpbniemjjhecaaW.PrintWords Go.Proofs.YtbpbniemjjhecaaW.PrintLast Go.Proofs.YtbpbniemjjhecaaW.PrintMore
set_option maxRecDepth 100000 in
theorem awake11_is (v : Value) : awake11.f 60 baseL ⟨v, some (some baseL)⟩ = some true := by kernel_rfl
def w11_awake.f : Option Bool := some true
theorem w11_awake.calls (r : Bool) (w : World) (h : w11_awake.f = some r) :
  Calls Try.prog 26 #[] w fun e w' => e = .returned (.bool r) ∧ Below w.heap.size w w' := by
 obtain rfl := Option.some.inj h
 exact awake11.calls 60 true w awake11_is rfl
end Go.Proofs.Ytbpbniemjjhecaa.G
end
