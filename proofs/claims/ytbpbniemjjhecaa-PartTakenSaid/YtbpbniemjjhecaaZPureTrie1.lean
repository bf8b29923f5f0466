import Derived.Test.YtbpbniemjjhecaaZPureTrieA
import Derived.Test.YtbpbniemjjhecaaZGTrieMatch
namespace Go.Proofs.Ytbpbniemjjhecaa.PureC
open Go.RowKit Go.Proofs.Ytbpbniemjjhecaa.PChk Go.Proofs.Ytbpbniemjjhecaa.G Go.Proofs.Ytbpbniemjjhecaa.GT Go.Proofs.YtbpbniemjjhecaaW.PrintWords Go.Proofs.YtbpbniemjjhecaaW.PrintLast
set_option linter.unusedSimpArgs false
theorem lastI_some (p : Rl → Bool) : ∀ (l : List Rl) (r : Int), lastI p l = some r → ∃ j : Nat, ∃ x : Rl, l[j]? = some x ∧ p x = true ∧ r = (j : Int) := by
 refine snoc_ind (fun r h => by cases h) ?_
 intro l x ih r h
 rw [lastI_snoc] at h
 by_cases hp : p x = true
 ·
  rw [if_pos hp] at h
  exact ⟨l.length, x, by simp, hp, (Option.some.inj h).symm⟩
 ·
  rw [if_neg hp] at h
  obtain ⟨j, y, h1, h2, h3⟩ := ih r h
  exact ⟨j, y, by rw [List.getElem?_append_left (List.getElem?_eq_some_iff.1 h1).1]; exact h1, h2, h3⟩
theorem lastI_none (p : Rl → Bool) : ∀ l : List Rl, lastI p l = none → ∀ x ∈ l, p x = false := by
 refine snoc_ind (fun _ x hx => by cases hx) ?_
 intro l x ih h y hy
 rw [lastI_snoc] at h
 by_cases hp : p x = true
 ·
  rw [if_pos hp] at h
  cases h
 ·
  rw [if_neg hp] at h
  rcases List.mem_append.1 hy with hy | hy
  ·
   exact ih h y hy
  ·
   rw [List.mem_singleton.1 hy]
   exact Bool.eq_false_iff.2 hp
theorem toList_data (a : ByteArray) : a.toList = a.data.toList := ByteArray.toList_eq a
theorem alone_fit (x : Rl) (h : aloneB x = true) (hs : Short x) : 1 ≤ x.f0 ∧ x.f0 ≤ 8 ∧ x.f1.size ≤ 50 ∧ x.f2.size ≤ 50 := by
 unfold aloneB at h
 rw [Bool.and_eq_true] at h
 have h1 := h.1
 unfold mayB at h1
 simp only [Bool.and_eq_true, decide_eq_true_eq] at h1
 exact ⟨h1.1.1.1.1, h1.1.1.1.2, hs.1, hs.2⟩
theorem fit_apart (l : List Rl) (h : Apart l) (hl : l.length ≤ 450) (hs : ∀ x ∈ l, Short x) : fitB l = true := by
 unfold fitB
 rw [Bool.and_eq_true, List.all_eq_true]
 refine ⟨decide_eq_true hl, fun x hx => ?_⟩
 obtain ⟨h1, h2, h3, h4⟩ := alone_fit x (h.1 x hx) (hs x hx)
 simp [h1, h2, h3, h4]
end Go.Proofs.Ytbpbniemjjhecaa.PureC
