import Derived.Test.YtbpbniemjjhecaaZPureTrie3
import Derived.Test.YtbpbniemjjhecaaZPChk17
import Derived.Test.YtbpbniemjjhecaaZPChk18
namespace Go.Proofs.Ytbpbniemjjhecaa.PureC
open Go.RowKit Go.Proofs.Ytbpbniemjjhecaa.PChk Go.Proofs.Ytbpbniemjjhecaa.G Go.Proofs.Ytbpbniemjjhecaa.GT Go.Proofs.YtbpbniemjjhecaaW.PrintWords Go.Proofs.YtbpbniemjjhecaaW.PrintLast
set_option linter.unusedSimpArgs false
theorem text_inj' (a b : ByteArray) : a.toList = b.toList ↔ a = b := by
 rw [toList_data, toList_data]
 exact ⟨fun h => ByteArray.ext (Array.toList_inj.1 h), fun h => by rw [h]⟩
theorem ref_word_go (l : List Rl) (hl : l.length ≤ 100000) (s : ByteArray) : ∀ (n k i : Nat), i + n = l.length → n + 1 ≤ k → r10_Word.l0 k l s (i : Int) = some ((fstI (wordP s) (l.drop i) i).getD 0, (fstI (wordP s) (l.drop i) i).isSome)
 | 0, k, i, hi, hk => by
  obtain ⟨k, rfl⟩ : ∃ m, k = m + 1 := ⟨k - 1, by omega⟩
  rw [r10_Word.l0, if_neg (by omega), List.drop_of_length_le (by omega)]
  rfl
 | n + 1, k, i, hi, hk => by
  obtain ⟨k, rfl⟩ : ∃ m, k = m + 1 := ⟨k - 1, by omega⟩
  have hlt : i < l.length := by omega
  have hd : l.drop i = l[i] :: l.drop (i + 1) := List.drop_eq_getElem_cons hlt
  have ih := ref_word_go l hl s n k (i + 1) (by omega) (by omega)
  rw [r10_Word.l0, if_pos (by omega), if_pos (by omega), rd23 l i hlt, hd, fstI, wrap_of (by omega) (by omega), show ((i : Int) + 1) = ((i + 1 : Nat) : Int) from by omega, ih]
  by_cases h5 : l[i].f0 = 5
  ·
   rw [if_pos h5]
   by_cases h2 : l[i].f2.toList = s.toList
   ·
    rw [if_pos h2, if_pos (by unfold wordP; simp [h5, (text_inj' _ _).1 h2])]
    rfl
   ·
    rw [if_neg h2, if_neg (by unfold wordP; simp [h5]; exact fun e => h2 (by rw [e]))]
  ·
   rw [if_neg h5, if_neg (by unfold wordP; simp [h5])]
theorem ref_word (l : List Rl) (hl : l.length ≤ 100000) (hA : Apart l) (s : ByteArray) (k : Nat) (hk : l.length + 1 ≤ k) : r10_Word.f k l s = some ((wordO (some (some l)) s).getD 0, (wordO (some (some l)) s).isSome) := by
 rw [word_plain hA]
 exact ref_word_go l hl s l.length k 0 (by omega) hk
theorem ref_find_go (l : List Rl) (hl : l.length ≤ 100000) (a : Int) (s : ByteArray) : ∀ (n k i : Nat), i + n = l.length → n + 1 ≤ k → r10_Find.l0 k l a s (i : Int) = some ((fstI (leftP (a, s)) (l.drop i) i).getD 0, (fstI (leftP (a, s)) (l.drop i) i).isSome)
 | 0, k, i, hi, hk => by
  obtain ⟨k, rfl⟩ : ∃ m, k = m + 1 := ⟨k - 1, by omega⟩
  rw [r10_Find.l0, if_neg (by omega), List.drop_of_length_le (by omega)]
  rfl
 | n + 1, k, i, hi, hk => by
  obtain ⟨k, rfl⟩ : ∃ m, k = m + 1 := ⟨k - 1, by omega⟩
  have hlt : i < l.length := by omega
  have hd : l.drop i = l[i] :: l.drop (i + 1) := List.drop_eq_getElem_cons hlt
  have ih := ref_find_go l hl a s n k (i + 1) (by omega) (by omega)
  rw [r10_Find.l0, if_pos (by omega), if_pos (by omega), rd23 l i hlt, hd, fstI, wrap_of (by omega) (by omega), show ((i : Int) + 1) = ((i + 1 : Nat) : Int) from by omega, ih]
  by_cases h5 : l[i].f0 = a
  ·
   rw [if_pos h5]
   by_cases h2 : l[i].f1.toList = s.toList
   ·
    rw [if_pos h2, if_pos (by unfold leftP; simp [h5, (text_inj' _ _).1 h2])]
    rfl
   ·
    rw [if_neg h2, if_neg (by unfold leftP; simp [h5]; exact fun e => h2 (by rw [e]))]
  ·
   rw [if_neg h5, if_neg (by unfold leftP; simp [h5])]
theorem ref_find (l : List Rl) (hl : l.length ≤ 100000) (hA : Apart l) (a : Int) (s : ByteArray) (k : Nat) (hk : l.length + 1 ≤ k) : r10_Find.f k l a s = some ((findO (some (some l)) a s).getD 0, (findO (some (some l)) a s).isSome) := by
 rw [find_plain hA]
 exact ref_find_go l hl a s l.length k 0 (by omega) hk
theorem ref_sign (l : List Rl) (hl : l.length ≤ 100000) (hA : Apart l) (s : ByteArray) (k : Nat) (hk : l.length + 1 ≤ k) : r10_Sign.f k l s = some (signO (some (some l)) s) := by
 unfold r10_Sign.f
 rw [ref_find l hl hA 8 s k hk, Option.bind_some]
 unfold signO
 rw [find_plain hA]
 cases h : fstI (leftP (8, s)) l 0 with
 | none => rfl
 | some r =>
  obtain ⟨j, x, h1, h2, rfl⟩ := fst_some _ l 0 r h
  have hlt := (List.getElem?_eq_some_iff.1 h1).1
  simp only [Option.getD_some, Option.isSome_some, if_true, Option.bind_some, Nat.zero_add]
  rw [if_pos (by omega), if_pos (by omega), rd23 l j hlt, show (some (some l)).join = some l from rfl, Option.bind_some, show ((j : Int)).toNat = j from by omega, h1]
  obtain ⟨h3, h4⟩ := List.getElem?_eq_some_iff.1 h1
  rw [h4]
  rfl
theorem ref_match_go (l : List Rl) (hl : l.length ≤ 100000) (s : ByteArray) (a row : Int) (h0 : 0 ≤ a) (h1 : a < (s.size : Int)) : ∀ (n k i : Nat), i + n = l.length → n + 10 ≤ k → r10_Match.l0 k l s a row (i : Int) = some ((fstI (begP row (s.data.toList.drop a.toNat)) (l.drop i) i).getD 0, (fstI (begP row (s.data.toList.drop a.toNat)) (l.drop i) i).isSome)
 | 0, k, i, hi, hk => by
  obtain ⟨k, rfl⟩ : ∃ m, k = m + 1 := ⟨k - 1, by omega⟩
  rw [r10_Match.l0, if_neg (by omega), show l.drop i = [] from List.drop_of_length_le (by omega)]
  rfl
 | n + 1, k, i, hi, hk => by
  obtain ⟨k, rfl⟩ : ∃ m, k = m + 1 := ⟨k - 1, by omega⟩
  have hlt : i < l.length := by omega
  have hd : l.drop i = l[i] :: l.drop (i + 1) := List.drop_eq_getElem_cons hlt
  have ih := ref_match_go l hl s a row h0 h1 n k (i + 1) (by omega) (by omega)
  have hb : begP row (s.data.toList.drop a.toNat) l[i] = (inB l[i].f0 row && beg l[i].f2 (s.extract a.toNat s.size)) := by
   unfold begP beg
   rw [drop_list s a.toNat (by omega), toList_data]
  rw [r10_Match.l0, if_pos (by omega), if_pos (by omega), rd23 l i hlt, hd, fstI, wrap_of (by omega) (by omega), show ((i : Int) + 1) = ((i + 1 : Nat) : Int) from by omega, ih, in_ref k (by omega), Option.bind_some, if_pos h0, if_pos (show a ≤ (s.size : Int) by omega), beg_ref, Option.bind_some, hb]
  cases inB l[i].f0 row with
  | false => rfl
  | true =>
   rw [if_pos rfl, Bool.true_and]
   cases beg l[i].f2 (s.extract a.toNat s.size) with
   | false => rfl
   | true => rfl
theorem fst_false (p : Rl → Bool) : ∀ (l : List Rl) (i : Nat), (∀ x ∈ l, p x = false) → fstI p l i = none
 | [], _, _ => rfl
 | x :: l, i, h => by
  rw [fstI, if_neg (by rw [h x List.mem_cons_self]; decide)]
  exact fst_false p l (i + 1) (fun y hy => h y (List.mem_cons_of_mem _ hy))
theorem ref_match (l : List Rl) (hl : l.length ≤ 100000) (hA : Apart l) (s : ByteArray) (a row : Int) (k : Nat) (hk : l.length + 12 ≤ k) : r10_Match.f k l s a row = some ((matchO (some (some l)) s a row).getD 0, (matchO (some (some l)) s a row).isSome) := by
 obtain ⟨k, rfl⟩ : ∃ m, k = m + 1 := ⟨k - 1, by omega⟩
 unfold r10_Match.f
 rw [match_plain hA]
 by_cases h0 : a < 0
 ·
  rw [if_pos h0, r10_Match.j0, if_pos rfl, if_pos (Or.inl h0)]
  rfl
 ·
  rw [if_neg h0, r10_Match.j0]
  by_cases h1 : a ≥ (s.size : Int)
  ·
   rw [if_pos (decide_eq_true h1), if_pos (Or.inr (Or.inl h1))]
   rfl
  ·
   rw [if_neg (by rw [decide_eq_false h1]; decide)]
   have hg := ref_match_go l hl s a row (by omega) (by omega) l.length k 0 (by omega) (by omega)
   rw [show ((0 : Nat) : Int) = 0 from rfl, List.drop_zero] at hg
   rw [hg]
   by_cases h2 : row < 0 ∨ row ≥ 4
   ·
    rw [if_pos (Or.inr (Or.inr h2)), fst_false _ l 0 (fun x _ => by
     unfold begP
     cases hb : inB x.f0 row with
     | false => rfl
     | true => have := inB_row _ _ hb; omega)]
   ·
    rw [if_neg (by omega)]
end Go.Proofs.Ytbpbniemjjhecaa.PureC
