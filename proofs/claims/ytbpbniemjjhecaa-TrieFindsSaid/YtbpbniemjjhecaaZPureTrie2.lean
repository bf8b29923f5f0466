import Derived.Test.YtbpbniemjjhecaaZPureTrie1
import Derived.Test.YtbpbniemjjhecaaZPureChkAwake
import Derived.Test.YtbpbniemjjhecaaZGTrieNew2
namespace Go.Proofs.Ytbpbniemjjhecaa.PureC
open Go.RowKit Go.Proofs.Ytbpbniemjjhecaa.PChk Go.Proofs.Ytbpbniemjjhecaa.G Go.Proofs.Ytbpbniemjjhecaa.GT Go.Proofs.YtbpbniemjjhecaaW.PrintWords Go.Proofs.YtbpbniemjjhecaaW.PrintLast
set_option linter.unusedSimpArgs false
set_option maxRecDepth 100000
theorem base_short : ∀ x ∈ baseL, Short x := by
 have h : baseL.all (fun x => decide (x.f1.size ≤ 50) && decide (x.f2.size ≤ 50)) = true := by decide +kernel
 intro x hx
 have h2 := List.all_eq_true.1 h x hx
 simp only [Bool.and_eq_true, decide_eq_true_eq] at h2
 exact h2
theorem base_n : baseL.length = 106 := by decide +kernel
theorem base_apart : Apart baseL := ((table_ok baseL (by rw [base_n]; omega) base_short 0 0 base_table).1 rfl).1
theorem new_apart (l : List Rl) (hl : l.length ≤ 450) (hs : ∀ x ∈ l, Short x) (h : tableB l = (0, 0)) : trie_New.f l = some (some (some l), 0, 0) ∧ Apart l := by
 have ht := table_check l (by omega) hs
 rw [h] at ht
 have ha := ((table_ok l (by omega) hs 0 0 ht).1 rfl).1
 refine ⟨?_, ha⟩
 unfold trie_New.f
 rw [ht, Option.bind_some, if_pos rfl, if_pos ⟨fit_apart l ha hl hs, rfl⟩]
theorem new_not (l : List Rl) (hl : l.length ≤ 450) (hs : ∀ x ∈ l, Short x) (h : (tableB l).2 ≠ 0) : trie_New.f l = some (none, (tableB l).1, (tableB l).2) := by
 unfold trie_New.f
 rw [table_check l (by omega) hs, Option.bind_some, if_neg h]
theorem table_two (l : List Rl) : tableB l = (0, 0) ∨ (tableB l).2 ≠ 0 := by
 unfold tableB lastB
 cases tabB [] l with
 | some n => exact Or.inr (by simp)
 | none =>
  simp only
  split
  ·
   exact Or.inr (by simp)
  ·
   split
   ·
    exact Or.inl rfl
   ·
    exact Or.inr (by simp)
theorem base_new : trie_New.f baseL = some (some (some baseL), 0, 0) := by
 unfold trie_New.f
 rw [base_table, Option.bind_some, if_pos rfl, if_pos ⟨fit_apart baseL base_apart (by rw [base_n]; omega) base_short, rfl⟩]
theorem base_a : matchO (some (some baseL)) ⟨#[1, 3]⟩ 0 1 = some 0 := by rw [match_plain base_apart, if_neg (by decide)]; decide +kernel
theorem base_b : matchO (some (some baseL)) ⟨#[1, 3]⟩ 1 2 = some 1 := by rw [match_plain base_apart, if_neg (by decide)]; decide +kernel
theorem base_c : matchO (some (some baseL)) ⟨#[1]⟩ 0 3 = some 84 := by rw [match_plain base_apart, if_neg (by decide)]; decide +kernel
theorem base_d : wordO (some (some baseL)) ⟨#[3]⟩ = some 48 := by rw [word_plain base_apart]; decide +kernel
theorem base_f : wordO (some (some baseL)) ⟨#[63]⟩ = none := by rw [word_plain base_apart]; decide +kernel
theorem base_g : matchO (some (some baseL)) ⟨#[1]⟩ 1 1 = none := by unfold matchO; rw [if_pos (by decide)]
theorem base_h : matchO (some (some baseL)) ⟨#[1]⟩ 0 4 = none := by unfold matchO; rw [if_pos (by decide)]
theorem base_cap : signO (some (some baseL)) ⟨#[99, 97, 112]⟩ = ⟨#[32]⟩ := by
 unfold signO
 rw [find_plain base_apart, show fstI (leftP (8, ⟨#[99, 97, 112]⟩)) baseL 0 = some 93 from by decide +kernel]
 decide +kernel
theorem base_is_a : w10_is.f baseL 0 true 1 ⟨#[97]⟩ = some true := by decide +kernel
theorem base_is_b : w10_is.f baseL 1 true 1 ⟨#[98]⟩ = some true := by decide +kernel
theorem base_is_c : w10_is.f baseL 84 true 7 ⟨#[49]⟩ = some true := by decide +kernel
theorem base_is_d : w10_is.f baseL 48 true 5 ⟨#[98, 117, 116]⟩ = some true := by decide +kernel
end Go.Proofs.Ytbpbniemjjhecaa.PureC
