import Derived.Test.YtbpbniemjjhecaaZPureTrieA
import Derived.Test.YtbpbniemjjhecaaZGTrieMatch
namespace Go.Proofs.Ytbpbniemjjhecaa.PureC
open Go.RowKit Go.Proofs.Ytbpbniemjjhecaa.PChk Go.Proofs.Ytbpbniemjjhecaa.G Go.Proofs.Ytbpbniemjjhecaa.GT Go.Proofs.YtbpbniemjjhecaaW.PrintWords Go.Proofs.YtbpbniemjjhecaaW.PrintLast
set_option linter.unusedSimpArgs false
def fstI (p : Rl → Bool) : List Rl → Nat → Option Int
 | [], _ => none
 | x :: l, i => if p x = true then some (i : Int) else fstI p l (i + 1)
theorem fst_some (p : Rl → Bool) : ∀ (l : List Rl) (i : Nat) (r : Int), fstI p l i = some r → ∃ j, ∃ x, l[j]? = some x ∧ p x = true ∧ r = ((i + j : Nat) : Int)
 | [], i, r, h => by cases h
 | x :: l, i, r, h => by
  unfold fstI at h
  by_cases hp : p x = true
  ·
   rw [if_pos hp] at h
   exact ⟨0, x, rfl, hp, (Option.some.inj h).symm⟩
  ·
   rw [if_neg hp] at h
   obtain ⟨j, y, h1, h2, h3⟩ := fst_some p l (i + 1) r h
   exact ⟨j + 1, y, h1, h2, by rw [h3]; omega⟩
theorem fst_none (p : Rl → Bool) : ∀ (l : List Rl) (i : Nat), fstI p l i = none → ∀ x ∈ l, p x = false
 | [], i, h, x, hx => by cases hx
 | y :: l, i, h, x, hx => by
  unfold fstI at h
  by_cases hp : p y = true
  ·
   rw [if_pos hp] at h
   cases h
  ·
   rw [if_neg hp] at h
   rcases List.mem_cons.1 hx with rfl | hx
   ·
    exact Bool.eq_false_iff.2 hp
   ·
    exact fst_none p l (i + 1) h x hx
theorem lastI_some (p : Rl → Bool) : ∀ (l : List Rl) (r : Int), lastI p l = some r → ∃ j : Nat, ∃ x : Rl, l[j]? = some x ∧ p x = true ∧ r = (j : Int) := by
 refine snoc_ind (fun r h => by cases h) ?_
 intro l x ih r h
 rw [lastI_snoc] at h
 by_cases hp : p x = true
 ·
  rw [if_pos hp] at h
  exact ⟨l.length, x, by simp, hp, (Option.some.inj h).symm⟩
 ·
  rw [if_neg hp] at h
  obtain ⟨j, y, h1, h2, h3⟩ := ih r h
  exact ⟨j, y, by rw [List.getElem?_append_left (List.getElem?_eq_some_iff.1 h1).1]; exact h1, h2, h3⟩
theorem lastI_none (p : Rl → Bool) : ∀ l : List Rl, lastI p l = none → ∀ x ∈ l, p x = false := by
 refine snoc_ind (fun _ x hx => by cases hx) ?_
 intro l x ih h y hy
 rw [lastI_snoc] at h
 by_cases hp : p x = true
 ·
  rw [if_pos hp] at h
  cases h
 ·
  rw [if_neg hp] at h
  rcases List.mem_append.1 hy with hy | hy
  ·
   exact ih h y hy
  ·
   rw [List.mem_singleton.1 hy]
   exact Bool.eq_false_iff.2 hp
def One (p : Rl → Bool) (l : List Rl) : Prop := ∀ (i j : Nat) (x y : Rl), l[i]? = some x → l[j]? = some y → p x = true → p y = true → i = j
theorem last_fst (p : Rl → Bool) (l : List Rl) (h : One p l) : lastI p l = fstI p l 0 := by
 cases h1 : lastI p l with
 | none =>
  cases h2 : fstI p l 0 with
  | none => rfl
  | some r =>
   obtain ⟨j, x, h3, h4, _⟩ := fst_some p l 0 r h2
   have := lastI_none p l h1 x (List.mem_of_getElem? h3)
   rw [this] at h4
   cases h4
 | some r =>
  obtain ⟨j, x, h3, h4, rfl⟩ := lastI_some p l r h1
  cases h2 : fstI p l 0 with
  | none =>
   have := fst_none p l 0 h2 x (List.mem_of_getElem? h3)
   rw [this] at h4
   cases h4
  | some r =>
   obtain ⟨i, y, h5, h6, rfl⟩ := fst_some p l 0 r h2
   rw [h j i x y h3 h5 h4 h6]
   simp
theorem apart_one {l : List Rl} (h : Apart l) (p : Rl → Bool) (hp : ∀ x ∈ l, ∀ y ∈ l, p x = true → p y = true → clashB x y = true) : One p l := by
 have key : ∀ (i j : Nat) (x y : Rl), i < j → l[i]? = some x → l[j]? = some y → p x = true → p y = true → False := by
  intro i j x y hij hx hy h1 h2
  obtain ⟨hi, ex⟩ := List.getElem?_eq_some_iff.1 hx
  obtain ⟨hj, ey⟩ := List.getElem?_eq_some_iff.1 hy
  have h3 := List.pairwise_iff_getElem.1 h.2 i j hi hj hij
  rw [ex, ey] at h3
  rw [hp x (List.mem_of_getElem? hx) y (List.mem_of_getElem? hy) h1 h2] at h3
  cases h3
 intro i j x y hx hy h1 h2
 rcases Nat.lt_trichotomy i j with h3 | h3 | h3
 ·
  exact (key i j x y h3 hx hy h1 h2).elim
 ·
  exact h3
 ·
  exact (key j i y x h3 hy hx h2 h1).elim
theorem left_one {l : List Rl} (h : Apart l) (j : Int × ByteArray) : One (leftP j) l := by
 refine apart_one h _ fun x _ y _ h1 h2 => ?_
 unfold leftP at h1 h2
 rw [decide_eq_true_eq] at h1 h2
 have h3 := h1.trans h2.symm
 simp only [Prod.mk.injEq] at h3
 unfold clashB
 rw [h3.1, h3.2]
 simp
theorem toList_data (a : ByteArray) : a.toList = a.data.toList := ByteArray.toList_eq a
theorem find_plain {l : List Rl} (h : Apart l) (a : Int) (s : ByteArray) : findO (some (some l)) a s = fstI (leftP (a, s)) l 0 := last_fst _ l (left_one h (a, s))
theorem alone_fit (x : Rl) (h : aloneB x = true) (hs : Short x) : 1 ≤ x.f0 ∧ x.f0 ≤ 8 ∧ x.f1.size ≤ 50 ∧ x.f2.size ≤ 50 := by
 unfold aloneB at h
 rw [Bool.and_eq_true] at h
 have h1 := h.1
 unfold mayB at h1
 simp only [Bool.and_eq_true, decide_eq_true_eq] at h1
 exact ⟨h1.1.1.1.1, h1.1.1.1.2, hs.1, hs.2⟩
theorem fit_apart (l : List Rl) (h : Apart l) (hl : l.length ≤ 450) (hs : ∀ x ∈ l, Short x) : fitB l = true := by
 unfold fitB
 rw [Bool.and_eq_true, List.all_eq_true]
 refine ⟨decide_eq_true hl, fun x hx => ?_⟩
 obtain ⟨h1, h2, h3, h4⟩ := alone_fit x (h.1 x hx) (hs x hx)
 simp [h1, h2, h3, h4]
end Go.Proofs.Ytbpbniemjjhecaa.PureC
