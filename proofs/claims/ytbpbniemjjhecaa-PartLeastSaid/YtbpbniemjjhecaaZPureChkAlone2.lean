import Derived.Test.YtbpbniemjjhecaaZPureChkAlone
namespace Go.Proofs.Ytbpbniemjjhecaa.PureC
open Go.RowKit Go.Proofs.Ytbpbniemjjhecaa.PChk Go.Proofs.Ytbpbniemjjhecaa.G Go.Proofs.YtbpbniemjjhecaaW.PrintWords Go.Proofs.YtbpbniemjjhecaaW.PrintLast
set_option linter.unusedSimpArgs false
def namesL : List ByteArray := [⟨#[99, 97, 112]⟩, ⟨#[99, 97, 112, 115]⟩, ⟨#[110, 117, 109]⟩, ⟨#[108, 101, 116]⟩, ⟨#[101, 43]⟩, ⟨#[101, 45]⟩, ⟨#[115, 43]⟩, ⟨#[115, 45]⟩, ⟨#[110, 43]⟩, ⟨#[110, 45]⟩, ⟨#[98, 108, 107]⟩, ⟨#[99, 111, 110, 116]⟩, ⟨#[105, 110, 100]⟩]
theorem names_check : rules_Names.f = some namesL := rfl
theorem rd_at (l : List ByteArray) (i : Nat) (h : i < l.length) : rdOf ByteArray.empty l (i : Int) = l[i] := by
 unfold rdOf
 rw [show ((i : Int)).toNat = i from by omega, List.getD_eq_getElem?_getD, List.getElem?_eq_getElem h]
 rfl
def memB (l : List ByteArray) (a : ByteArray) : Bool := l.any fun t => a.toList == t.toList
theorem index_go (l : List ByteArray) (a : ByteArray) (hl : l.length ≤ 100000) : ∀ (n k i : Nat), i + n = l.length → n + 1 ≤ k → ∃ r, slices_Index_string_string.l0 k l a (l.length : Int) (i : Int) = some r ∧ decide (r ≥ 0) = memB (l.drop i) a
 | 0, k, i, hi, hk => by
  obtain ⟨k, rfl⟩ : ∃ m, k = m + 1 := ⟨k - 1, by omega⟩
  rw [slices_Index_string_string.l0, if_neg (by omega), List.drop_of_length_le (by omega)]
  exact ⟨-1, rfl, rfl⟩
 | n + 1, k, i, hi, hk => by
  obtain ⟨k, rfl⟩ : ∃ m, k = m + 1 := ⟨k - 1, by omega⟩
  have hlt : i < l.length := by omega
  have hd : l.drop i = l[i] :: l.drop (i + 1) := List.drop_eq_getElem_cons hlt
  rw [slices_Index_string_string.l0, if_pos (by omega), if_pos (by omega), if_pos (by omega), rd_at l i hlt, hd]
  unfold memB
  rw [List.any_cons]
  by_cases h : a.toList = l[i].toList
  ·
   exact ⟨(i : Int), by rw [if_pos h], by rw [beq_iff_eq.2 h, Bool.true_or]; exact decide_eq_true (by omega)⟩
  ·
   obtain ⟨r, h1, h2⟩ := index_go l a hl n k (i + 1) (by omega) (by omega)
   exact ⟨r, by rw [if_neg h, wrap_of (by omega) (by omega), show ((i : Int) + 1) = ((i + 1 : Nat) : Int) from by omega, h1], by rw [beq_eq_false_iff_ne.2 h, Bool.false_or]; exact h2⟩
theorem contains_names (a : ByteArray) (k : Nat) (hk : 20 ≤ k) : slices_Contains_string_string.f k namesL a = some (memB namesL a) := by
 obtain ⟨r, h1, h2⟩ := index_go namesL a (by decide) 13 k 0 (by decide) (by omega)
 unfold slices_Contains_string_string.f slices_Index_string_string.f
 rw [show ((0 : Nat) : Int) = 0 from rfl] at h1
 rw [h1, Option.bind_some, h2]
 rfl
def leftB (what : Int) (s : ByteArray) : Bool := if what = 6 then s.size == 1 && classN (bt s 0) == 4 else if what = 7 then s.size == 1 && classN (bt s 0) == 3 else if what = 8 then memB namesL s else decide (0 < s.size ∧ s.size ≤ 12) && smallB s
theorem class_at (s : ByteArray) (h : 0 < s.size) (k : Nat) (hk : 40 ≤ k) : chars_Class.f (bt s 0) = some (classN (bt s 0)) ∧ r1_Class.f k (bt s 0) = some (classN (bt s 0)) := by
 have e := bt_of s 0 h
 rw [show ((0 : Nat) : Int) = 0 from rfl] at e
 rw [e]
 exact ⟨class_check _, class_ref k hk _⟩
theorem left_check (what : Int) (h1 : 1 ≤ what) (h8 : what ≤ 8) (s : ByteArray) (hs : s.size ≤ 100000) (k : Nat) (hk : 20 ≤ k) : rules_left.f k what s = some (leftB what s) := by
 unfold rules_left.f leftB
 by_cases h6 : what = 6
 ·
  rw [if_pos h6, if_pos h6]
  by_cases hz : (s.size : Int) = 1
  ·
   rw [if_pos hz, if_pos (by omega), (class_at s (by omega) 40 (by omega)).1, show (s.size == 1) = true from beq_iff_eq.2 (by omega)]; rfl
  ·
   rw [if_neg hz, show (s.size == 1) = false from beq_eq_false_iff_ne.2 (by omega)]; rfl
 ·
  rw [if_neg h6, if_neg h6]
  by_cases h7 : what = 7
  ·
   rw [if_pos h7, if_pos h7]
   by_cases hz : (s.size : Int) = 1
   ·
    rw [if_pos hz, if_pos (by omega), (class_at s (by omega) 40 (by omega)).1, show (s.size == 1) = true from beq_iff_eq.2 (by omega)]; rfl
   ·
    rw [if_neg hz, show (s.size == 1) = false from beq_eq_false_iff_ne.2 (by omega)]; rfl
  ·
   rw [if_neg h7, if_neg h7]
   by_cases h8' : what = 8
   ·
    rw [if_pos h8', if_pos h8', names_check, Option.bind_some, contains_names s k hk]; rfl
   ·
    rw [if_neg h8', if_neg h8']
    have hl : rules_letters.f what = some true := by
     unfold rules_letters.f
     rw [if_pos (by omega), decide_eq_true (by omega)]
    rw [hl, Option.bind_some, if_pos rfl]
    by_cases hz : (s.size : Int) ≤ 12
    ·
     have hcase : chars_Case.f s = some (caseF s) := by unfold chars_Case.f; rw [if_pos (by omega)]
     rw [if_pos hz, hcase, Option.bind_some, case_small s (by omega)]
     congr 2
     rw [decide_eq_decide]
     omega
    ·
     rw [if_neg hz, decide_eq_false (by omega)]; rfl
def mayB (x : S33) : Bool := decide (1 ≤ x.f0 ∧ x.f0 ≤ 8) && leftB x.f0 x.f1 && printB x.f2 && (if x.f0 ≤ 5 then decide (0 ≤ x.f3 ∧ x.f3 ≤ 99) else x.f3 == 0)
theorem may_check (x : S33) (k : Nat) (h1 : x.f1.size ≤ 100000) (h2 : x.f2.size ≤ 100000) (hk : x.f2.size + 30 ≤ k) : rules_May.f k x.f0 x.f1 x.f2 x.f3 x.f4 = some (mayB x) := by
 obtain ⟨k, rfl⟩ : ∃ m, k = m + 1 := ⟨k - 1, by omega⟩
 obtain ⟨t, e, hp, he⟩ := print_check x.f2 h2 (k + 1) (by omega)
 unfold rules_May.f mayB
 rw [hp, Option.bind_some]
 by_cases hlo : x.f0 < 1
 ·
  rw [if_pos hlo, rules_May.j0, if_pos rfl, decide_eq_false (by omega)]; rfl
 ·
  rw [if_neg hlo]
  by_cases hhi : x.f0 > 8
  ·
   rw [if_pos hhi, rules_May.j0, if_pos rfl, decide_eq_false (by omega)]; rfl
  ·
   rw [if_neg hhi, left_check x.f0 (by omega) (by omega) x.f1 h1 (k + 1) (by omega), Option.bind_some, decide_eq_true (by omega : 1 ≤ x.f0 ∧ x.f0 ≤ 8), Bool.true_and]
   have hlet : rules_letters.f x.f0 = some (decide (x.f0 ≤ 5)) := by
    unfold rules_letters.f
    rw [if_pos (by omega)]
   by_cases hl : leftB x.f0 x.f1 = true
   ·
    rw [if_pos hl, hl, Bool.true_and, rules_May.j0]
    by_cases h0 : e = 0
    ·
     rw [← he, h0, if_neg (by simp), hlet, Option.bind_some]
     by_cases h5 : x.f0 ≤ 5
     ·
      rw [if_pos (by simpa using h5), if_pos h5]
      by_cases h3 : x.f3 ≥ 0
      ·
       rw [if_pos h3]
       simp only [beq_self_eq_true, Bool.true_and, Option.some.injEq, decide_eq_decide]
       omega
      ·
       rw [if_neg h3, decide_eq_false (by omega)]; rfl
     ·
      rw [if_neg (by simpa using h5), if_neg h5]; rfl
    ·
     rw [← he, if_pos (by simpa using h0), beq_eq_false_iff_ne.2 h0]; rfl
   ·
    rw [if_neg hl, rules_May.j0, if_pos rfl, Bool.eq_false_iff.2 hl]; rfl
def capN (x : S33) : Nat := if x.f0 = 8 ∧ (x.f1.toList = [110, 117, 109] ∨ x.f1.toList = [108, 101, 116]) then 2 else 4
theorem cap_two (x : S33) (h : x.f0 = 8 ∧ (x.f1.toList = [110, 117, 109] ∨ x.f1.toList = [108, 101, 116])) : capN x = 2 := if_pos h
theorem cap_four (x : S33) (h : ¬ (x.f0 = 8 ∧ (x.f1.toList = [110, 117, 109] ∨ x.f1.toList = [108, 101, 116]))) : capN x = 4 := if_neg h
def mostN (x : S33) : Nat := if keptB x = true ∨ x.f0 = 7 ∨ (x.f0 = 1 ∧ x.f1.size = 1) then 1 else capN x
def aloneB (x : S33) : Bool := mayB x && decide (x.f2.size ≤ mostN x)
theorem most_check (x : S33) (k : Nat) (hk : 1 ≤ k) : check_most.f k x.f0 x.f1 x.f2 x.f3 x.f4 = some (mostN x : Int) := by
 obtain ⟨k, rfl⟩ : ∃ m, k = m + 1 := ⟨k - 1, by omega⟩
 unfold check_most.f mostN
 rw [kept_check, Option.bind_some]
 have hj : check_most.j0 (k + 1) false x.f0 x.f1 x.f2 x.f3 x.f4 = some (capN x : Int) := by
  rw [check_most.j0, if_neg (by decide)]
  by_cases h8 : x.f0 = 8
  ·
   rw [if_pos h8]
   by_cases hn : x.f1.toList = [110, 117, 109]
   ·
    rw [if_pos hn, cap_two x ⟨h8, Or.inl hn⟩]; rfl
   ·
    rw [if_neg hn]
    by_cases hle : x.f1.toList = [108, 101, 116]
    ·
     rw [if_pos hle, cap_two x ⟨h8, Or.inr hle⟩]; rfl
    ·
     rw [if_neg hle, cap_four x (by rintro ⟨_, h | h⟩; exact hn h; exact hle h)]; rfl
  ·
   rw [if_neg h8, cap_four x (fun h => h8 h.1)]; rfl
 have ht : check_most.j0 (k + 1) true x.f0 x.f1 x.f2 x.f3 x.f4 = some 1 := by rw [check_most.j0, if_pos rfl]
 by_cases hkp : keptB x = true
 ·
  rw [if_pos hkp, ht, if_pos (Or.inl hkp)]; rfl
 ·
  rw [if_neg hkp]
  by_cases h7 : x.f0 = 7
  ·
   rw [if_pos h7, ht, if_pos (Or.inr (Or.inl h7))]; rfl
  ·
   rw [if_neg h7]
   by_cases h1 : x.f0 = 1
   ·
    rw [if_pos h1]
    by_cases hz : x.f1.size = 1
    ·
     rw [show ((x.f1.size : Int) == 1) = true from beq_iff_eq.2 (by omega), ht, if_pos (Or.inr (Or.inr ⟨h1, hz⟩))]; rfl
    ·
     rw [show ((x.f1.size : Int) == 1) = false from beq_eq_false_iff_ne.2 (by omega), hj, if_neg (fun h => h.elim hkp (fun h => h.elim h7 (fun h => hz h.2)))]
   ·
    rw [if_neg h1, hj, if_neg (fun h => h.elim hkp (fun h => h.elim h7 (fun h => h1 h.1)))]
theorem alone_check (x : S33) (k : Nat) (h1 : x.f1.size ≤ 100000) (h2 : x.f2.size ≤ 100000) (hk : x.f2.size + 30 ≤ k) : check_Alone.f k x.f0 x.f1 x.f2 x.f3 x.f4 = some (aloneB x) := by
 unfold check_Alone.f aloneB
 rw [may_check x k h1 h2 hk, Option.bind_some]
 by_cases hm : mayB x = true
 ·
  rw [if_pos hm, most_check x k (by omega), Option.bind_some, hm, Bool.true_and]
  congr 1
  rw [decide_eq_decide]
  omega
 ·
  rw [if_neg hm, Bool.eq_false_iff.2 hm, Bool.false_and]
theorem print_pos (s : ByteArray) (h : printB s = true) : 1 ≤ s.size ∧ s.size ≤ 4 := by
 unfold printB at h
 rw [Bool.and_eq_true, decide_eq_true_eq] at h
 exact h.1
end Go.Proofs.Ytbpbniemjjhecaa.PureC
