import Derived.Test.YtbpbniemjjhecaaZGPartAw
import Derived.Test.YtbpbniemjjhecaaZPPar1
import Derived.Test.YtbpbniemjjhecaaZPPar3
import Derived.Test.YtbpbniemjjhecaaZGPartTaken
section
namespace Go.Proofs.Ytbpbniemjjhecaa.PureC
open Go.RowKit Go.Proofs.Ytbpbniemjjhecaa.PChk Go.Proofs.Ytbpbniemjjhecaa.G Go.Proofs.Ytbpbniemjjhecaa.GT Go.Proofs.YtbpbniemjjhecaaW.PrintWords Go.Proofs.YtbpbniemjjhecaaW.PrintLast
set_option linter.unusedSimpArgs false
def longB11 (x : S33) : Bool := decide (50 < x.f1.size ∨ 50 < x.f2.size)
theorem long_go11 (l : List S33) (hl : l.length ≤ 450) : ∀ (n k i : Nat), i + n = l.length → n + 1 ≤ k → w11_long.l0 k l (i : Int) = some ((l.drop i).any longB11)
 | 0, k, i, hi, hk => by
  obtain ⟨k, rfl⟩ : ∃ m, k = m + 1 := ⟨k - 1, by omega⟩
  rw [w11_long.l0, if_neg (by omega), List.drop_of_length_le (by omega)]
  rfl
 | n + 1, k, i, hi, hk => by
  obtain ⟨k, rfl⟩ : ∃ m, k = m + 1 := ⟨k - 1, by omega⟩
  have hlt : i < l.length := by omega
  have hd : l.drop i = l[i] :: l.drop (i + 1) := List.drop_eq_getElem_cons hlt
  rw [w11_long.l0, if_pos (by omega), if_pos (by omega), rd23 l i hlt, hd, List.any_cons, wrap_of (by omega) (by omega), show ((i : Int) + 1) = ((i + 1 : Nat) : Int) from by omega, long_go11 l hl n k (i + 1) (by omega) (by omega)]
  unfold longB11
  by_cases h1 : (l[i].f1.size : Int) > 50
  ·
   rw [if_pos h1, decide_eq_true (Or.inl (by omega)), Bool.true_or]
  ·
   rw [if_neg h1]
   by_cases h2 : (l[i].f2.size : Int) > 50
   ·
    rw [if_pos h2, decide_eq_true (Or.inr (by omega)), Bool.true_or]
   ·
    rw [if_neg h2, decide_eq_false (by omega), Bool.false_or]
theorem long_is11 (l : List S33) (k : Nat) (hk : 500 ≤ k) : w11_long.f k l = some true ∨ (w11_long.f k l = some false ∧ l.length ≤ 450 ∧ ∀ x ∈ l, Short x) := by
 unfold w11_long.f
 by_cases h : (l.length : Int) > 450
 ·
  exact Or.inl (if_pos h)
 ·
  rw [if_neg h]
  have hg := long_go11 l (by omega) l.length k 0 (by omega) (by omega)
  rw [show ((0 : Nat) : Int) = 0 from rfl, List.drop_zero] at hg
  cases ha : l.any longB11 with
  | true => exact Or.inl (by rw [hg, ha])
  | false =>
   refine Or.inr ⟨by rw [hg, ha], by omega, fun x hx => ?_⟩
   have h1 : longB11 x = false := Bool.eq_false_iff.2 fun h => by
    have h2 : l.any longB11 = true := List.any_eq_true.2 ⟨x, hx, h⟩
    rw [ha] at h2
    cases h2
   unfold longB11 at h1
   rw [decide_eq_false_iff_not] at h1
   exact ⟨by omega, by omega⟩
theorem same_go11 (l : List Int) (hl : l.length ≤ 100000) : ∀ (n k i : Nat), i + n = l.length → n + 1 ≤ k → w11_same.l0 k l l (i : Int) = some true
 | 0, k, i, hi, hk => by
  obtain ⟨k, rfl⟩ : ∃ m, k = m + 1 := ⟨k - 1, by omega⟩
  rw [w11_same.l0, if_neg (by omega)]
 | n + 1, k, i, hi, hk => by
  obtain ⟨k, rfl⟩ : ∃ m, k = m + 1 := ⟨k - 1, by omega⟩
  rw [w11_same.l0, if_pos (by omega), if_pos (by omega), if_pos (by omega), if_pos rfl, wrap_of (by omega) (by omega), show ((i : Int) + 1) = ((i + 1 : Nat) : Int) from by omega, same_go11 l hl n k (i + 1) (by omega) (by omega)]
theorem same_is11 (l : List Int) (hl : l.length ≤ 100000) (k : Nat) (hk : l.length + 1 ≤ k) : w11_same.f k l l = some true := by
 unfold w11_same.f
 rw [if_pos rfl]
 exact same_go11 l hl l.length k 0 (by omega) hk
end Go.Proofs.Ytbpbniemjjhecaa.PureC
end
section
namespace Go.Proofs.Ytbpbniemjjhecaa.PureC
open Go.RowKit Go.Proofs.Ytbpbniemjjhecaa.PChk Go.Proofs.Ytbpbniemjjhecaa.G Go.Proofs.Ytbpbniemjjhecaa.GT Go.Proofs.YtbpbniemjjhecaaW.PrintWords Go.Proofs.YtbpbniemjjhecaaW.PrintLast
set_option linter.unusedSimpArgs false
theorem whole_ne {l : List Rl} (hw : Whole l) : l ≠ [] := by
 obtain ⟨x, hx, _⟩ := letter_rule hw 97 (by decide) (by decide)
 exact List.ne_nil_of_mem hx
theorem best_f {l : List Rl} {v : Value} {run : ByteArray} {a most : Int} {x : Rl} {i : Int} (hs : run.size ≤ 140737488351232) (h : spotB run a = true) (hb : bestS l run a (upTo run a most) = some (x, i)) : part_Best.f ⟨v, some (some l)⟩ run a most = some (i, true) := by
 unfold part_Best.f bestO
 simp only
 rw [if_pos hs, if_pos h, hb]
 rfl
theorem all_f {l : List Rl} {v : Value} {run : ByteArray} {a : Int} (hw : Whole l) (hs : run.size ≤ 1000000) : part_All.f ⟨v, some (some l)⟩ run a = some (allF l run a) := by
 unfold part_All.f
 simp only
 rw [if_pos ⟨hs, whole_ne hw⟩]
theorem all_len {l : List Rl} (hw : Whole l) {run : ByteArray} (hs : run.size ≤ 140737488351232) : ∀ (n : Nat) (a : Int), (run.size : Int) - a ≤ n → 0 ≤ a → (allF l run a).length ≤ n
 | n, a, hn, h0 => by
  cases h : spotB run a with
  | false => rw [all_nil h]; exact Nat.zero_le _
  | true =>
   obtain ⟨b0, b1⟩ := spotB_at h
   obtain ⟨x, i, hb, e⟩ := all_cons hw hs h
   obtain ⟨c1, c2, c3, c4, c5, c6, c7⟩ := best_at l run a run.size x i b0 b1 hb
   rw [e, List.length_cons]
   cases n with
   | zero => omega
   | succ n => have := all_len hw hs n (a + (x.f1.size : Int)) (by omega) (by omega); omega
theorem all_end {l : List Rl} (hw : Whole l) {run : ByteArray} (hs : run.size ≤ 140737488351232) {a : Int} (h : allF l run a = []) : spotB run a = false := by
 cases h2 : spotB run a with
 | false => rfl
 | true => obtain ⟨x, i, hb, e⟩ := all_cons hw hs h2; rw [e] at h; cases h
theorem taken_go {l : List Rl} {v : Value} (hw : Whole l) (hl : l.length ≤ 450) {run : ByteArray} (hs : run.size ≤ 60) (hc : caseF run = 1) (all : List Int) (hal : all.length ≤ 60) : ∀ (n k i : Nat) (a : Int), i + n = all.length → 2 * n + 100 ≤ k → 0 ≤ a → a ≤ run.size → all.drop i = allF l run a → pTaken.l0 k l run ⟨v, some (some l)⟩ all a (i : Int) = some true
 | 0, k, i, a, hi, hk, h0, h1, hd => by
  obtain ⟨k, rfl⟩ : ∃ m, k = m + 1 := ⟨k - 1, by omega⟩
  rw [List.drop_of_length_le (by omega)] at hd
  have hn := all_end hw (by omega) hd.symm
  have ha : a = run.size := by
   unfold spotB at hn
   rw [if_pos hc, if_pos (by omega), decide_eq_false_iff_not] at hn
   omega
  rw [pTaken.l0, if_neg (by omega), if_pos ha]
  rfl
 | n + 1, k, i, a, hi, hk, h0, h1, hd => by
  obtain ⟨k, rfl⟩ : ∃ m, k = m + 2 := ⟨k - 2, by omega⟩
  have hsp : spotB run a = true := by
   cases h : spotB run a with
   | true => rfl
   | false =>
    rw [all_nil h, List.drop_eq_nil_iff] at hd
    omega
  obtain ⟨b0, b1⟩ := spotB_at hsp
  obtain ⟨x, r, hb, e⟩ := all_cons (l := l) hw (by omega) hsp
  obtain ⟨c1, c2, c3, c4, c5, c6, c7⟩ := best_at l run a run.size x r b0 b1 hb
  have hr : rd all (i : Int) = r := by
   have h2 : all[i]? = some r := by
    have h3 := congrArg (·[0]?) (hd.trans e)
    simpa using h3
   simp [rd, h2]
  have hrl : r < l.length := by have := (List.getElem?_eq_some_iff.1 c1).1; omega
  have hrd : rd_T33 l r = x := by simp [rd_T33, c1]
  have hlen := all_len hw (l := l) (by omega : run.size ≤ 140737488351232) run.size a (by omega) h0
  have hd2 : all.drop (i + 1) = allF l run (a + (x.f1.size : Int)) := by
   have h3 := congrArg List.tail (hd.trans e)
   rw [List.tail_drop, List.tail_cons] at h3
   exact h3
  have hx : run.extract a.toNat (a + (x.f1.size : Int)).toNat = x.f1 := c5.symm
  have hwa : wrap64 (a + (x.f1.size : Int)) = a + (x.f1.size : Int) := by unfold wrap64; omega
  rw [pTaken.l0, if_pos (by omega), best_f (by omega) hsp hb, Option.bind_some]
  simp only
  rw [if_pos trivial, if_pos (by omega), if_pos hr.symm, if_neg (by omega), if_neg (by omega), all_f hw (by omega), Option.bind_some, if_pos (by omega), show (i : Int).toNat = i from rfl, hd, same_is11 _ (by omega) _ (by omega), Option.bind_some, pTaken.j2, if_neg (by decide), if_pos c2, if_pos hrl, hrd, if_neg (by omega), hwa, if_neg (by omega), if_pos h0, if_pos (by omega), if_pos (by omega), if_pos (by rw [hx]), wrap_of (by omega) (by omega), show ((i : Int) + 1) = ((i + 1 : Nat) : Int) from by omega]
  exact taken_go hw hl hs hc all hal n k (i + 1) _ (by omega) (by omega) (by omega) (by omega) hd2
theorem taken_true {l : List Rl} (v : Value) (hw : Whole l) (hl : l.length ≤ 450) (run : ByteArray) (hs : run.size ≤ 60) (a : Int) : pTaken.f 400 l run a ⟨v, some (some l)⟩ = some true := by
 have hj : ∀ b, (b = true → allF l run a = []) → (b = false → caseF run = 1 ∧ 0 ≤ a ∧ a < run.size) → pTaken.j0 400 l run a ⟨v, some (some l)⟩ (allF l run a) b = some true := by
  intro b h1 h2
  rw [show (400 : Nat) = 399 + 1 from rfl, pTaken.j0]
  cases b with
  | true => rw [if_pos rfl, h1 rfl]; rfl
  | false =>
   obtain ⟨h3, h4, h5⟩ := h2 rfl
   have hlen := all_len hw (l := l) (by omega : run.size ≤ 140737488351232) run.size a (by omega) h4
   rw [if_neg (by decide)]
   exact taken_go hw hl hs h3 _ (by omega) (allF l run a).length 399 0 a (by omega) (by omega) h4 (by omega) rfl
 unfold pTaken.f
 rw [all_f hw (by omega), Option.bind_some, show chars_Case.f run = some (caseF run) from if_pos (by omega), Option.bind_some]
 by_cases hc : caseF run = 1
 ·
  rw [if_pos hc]
  by_cases h0 : a < 0
  ·
   rw [if_pos h0]
   exact hj true (fun _ => all_nil (by unfold spotB; rw [if_pos hc, if_neg (by omega)])) (fun h => by cases h)
  ·
   rw [if_neg h0]
   exact hj _ (fun h => all_nil (by rw [decide_eq_true_eq] at h; unfold spotB; rw [if_pos hc, if_pos (by omega)]; exact decide_eq_false (by omega))) (fun h => by rw [decide_eq_false_iff_not] at h; exact ⟨hc, by omega, by omega⟩)
 ·
  rw [if_neg hc]
  exact hj true (fun _ => all_nil (by unfold spotB; rw [if_neg hc])) (fun h => by cases h)
end Go.Proofs.Ytbpbniemjjhecaa.PureC
end
