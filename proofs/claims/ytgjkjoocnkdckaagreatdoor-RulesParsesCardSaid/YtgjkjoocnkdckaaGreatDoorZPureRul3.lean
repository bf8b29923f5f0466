import Derived.Test.YtgjkjoocnkdckaaGreatDoorZPChk8
import Derived.Test.YtgjkjoocnkdckaaGreatDoorZPureRul2
namespace Go.Proofs.YtgjkjoocnkdckaaGreatDoor.PureC
open Go.RowKit Go.Proofs.YtgjkjoocnkdckaaGreatDoor.PChk Go.Proofs.YtgjkjoocnkdckaaGreatDoor.G Go.Proofs.YtgjkjoocnkdckaaGreatDoorW.PrintWords Go.Proofs.YtgjkjoocnkdckaaGreatDoorW.PrintLast
set_option linter.unusedSimpArgs false
def idxP (p : ByteArray) : Int :=
  if p.toList = [] then 0 else if p.toList = [97, 110, 121] then 1 else if p.toList = [98, 101, 103, 105, 110] then 2 else if p.toList = [105, 110, 110, 101, 114] then 3 else if p.toList = [101, 110, 100] then 4
  else if p.toList = [119, 111, 114, 100] then 5 else if p.toList = [109, 97, 114, 107] then 6 else if p.toList = [100, 105, 103, 105, 116] then 7 else if p.toList = [115, 105, 103, 110] then 8 else -1
theorem idxP_bound (p : ByteArray) : -1 ≤ idxP p ∧ idxP p ≤ 8 := by
  unfold idxP
  repeat' split
  all_goals omega
theorem index_step (a : ByteArray) (k i : Nat) (hi : i < 9) : slices_Index_string_string.l0 (k + 1) words9 a 9 (i : Int) = if a.toList = (words9[i]'hi).toList then some (i : Int) else slices_Index_string_string.l0 k words9 a 9 ((i + 1 : Nat) : Int) := by
  have hl : words9.length = 9 := rfl
  rw [slices_Index_string_string.l0, if_pos (by omega), if_pos (by omega), if_pos (by omega), rd_at words9 i hi, wrap_of (x := (i : Int) + 1) (by omega) (by omega), show ((i : Int) + 1) = ((i + 1 : Nat) : Int) from by omega]
theorem index_words9 (a : ByteArray) : slices_Index_string_string.f 20 words9 a = some (idxP a) := by
  have h9 : slices_Index_string_string.l0 11 words9 a 9 ((9 : Nat) : Int) = some (-1) := by rw [slices_Index_string_string.l0, if_neg (by omega)]
  have h : slices_Index_string_string.f 20 words9 a = slices_Index_string_string.l0 20 words9 a 9 ((0 : Nat) : Int) := rfl
  rw [h, index_step a 19 0 (by decide), index_step a 18 1 (by decide), index_step a 17 2 (by decide), index_step a 16 3 (by decide), index_step a 15 4 (by decide), index_step a 14 5 (by decide), index_step a 13 6 (by decide), index_step a 12 7 (by decide), index_step a 11 8 (by decide), h9]
  unfold idxP
  have e : ∀ l : List UInt8, (⟨l.toArray⟩ : ByteArray).toList = l := fun l => by rw [ByteArray.toList_eq]
  show (if a.toList = (⟨#[]⟩ : ByteArray).toList then _ else if a.toList = (⟨#[97, 110, 121]⟩ : ByteArray).toList then _ else if a.toList = (⟨#[98, 101, 103, 105, 110]⟩ : ByteArray).toList then _ else if a.toList = (⟨#[105, 110, 110, 101, 114]⟩ : ByteArray).toList then _ else if a.toList = (⟨#[101, 110, 100]⟩ : ByteArray).toList then _ else if a.toList = (⟨#[119, 111, 114, 100]⟩ : ByteArray).toList then _ else if a.toList = (⟨#[109, 97, 114, 107]⟩ : ByteArray).toList then _ else if a.toList = (⟨#[100, 105, 103, 105, 116]⟩ : ByteArray).toList then _ else if a.toList = (⟨#[115, 105, 103, 110]⟩ : ByteArray).toList then _ else _) = _
  rw [e [], e [97, 110, 121], e [98, 101, 103, 105, 110], e [105, 110, 110, 101, 114], e [101, 110, 100], e [119, 111, 114, 100], e [109, 97, 114, 107], e [100, 105, 103, 105, 116], e [115, 105, 103, 110]]
  repeat' split
  all_goals rfl
def seenR (p : ByteArray) : Nat → Int
  | 0 => 0
  | 1 => 0
  | i + 1 => if (at0 words9 i).toList = p.toList then (i : Int) else seenR p i
theorem refwords_step (l : List ByteArray) (hl : 0 < l.length) (ln : Int) (k i : Nat) (h1 : 1 ≤ i) (h9 : i < 9) :
    r8_rule.l0 (k + 1) l words9 (i : Int) (seenR (at0 l 0) i) ⟨#[]⟩ ⟨#[]⟩ 0 ln = r8_rule.l0 k l words9 ((i + 1 : Nat) : Int) (seenR (at0 l 0) (i + 1)) ⟨#[]⟩ ⟨#[]⟩ 0 ln := by
  have hl9 : words9.length = 9 := rfl
  have hr0 : rdOf ByteArray.empty l 0 = at0 l 0 := rfl
  have hri : rdOf ByteArray.empty words9 (i : Int) = at0 words9 i := rfl
  obtain ⟨j, rfl⟩ : ∃ j, i = j + 1 := ⟨i - 1, by omega⟩
  rw [r8_rule.l0, if_pos (by omega), if_pos (by omega), if_pos (by omega), hr0, hri, wrap_of (x := ((j + 1 : Nat) : Int) + 1) (by omega) (by omega), show (((j + 1 : Nat) : Int) + 1) = ((j + 1 + 1 : Nat) : Int) from by omega]
  show _ = r8_rule.l0 k l words9 ((j + 1 + 1 : Nat) : Int) (if (at0 words9 (j + 1)).toList = (at0 l 0).toList then ((j + 1 : Nat) : Int) else seenR (at0 l 0) (j + 1)) _ _ _ _
  by_cases h : (at0 words9 (j + 1)).toList = (at0 l 0).toList
  · rw [if_pos h, if_pos h]
  · rw [if_neg h, if_neg h]
theorem refwords (l : List ByteArray) (hl : 0 < l.length) (ln : Int) (k : Nat) : r8_rule.l0 (k + 8) l words9 1 0 ⟨#[]⟩ ⟨#[]⟩ 0 ln = r8_rule.l0 k l words9 9 (seenR (at0 l 0) 9) ⟨#[]⟩ ⟨#[]⟩ 0 ln := by
  have h := refwords_step l hl ln
  exact (h (k + 7) 1 (by omega) (by omega)).trans ((h (k + 6) 2 (by omega) (by omega)).trans ((h (k + 5) 3 (by omega) (by omega)).trans ((h (k + 4) 4 (by omega) (by omega)).trans ((h (k + 3) 5 (by omega) (by omega)).trans ((h (k + 2) 6 (by omega) (by omega)).trans ((h (k + 1) 7 (by omega) (by omega)).trans (h k 8 (by omega) (by omega))))))))
theorem seen_idx (p : ByteArray) : seenR p 9 = if 1 ≤ idxP p then idxP p else 0 := by
  have e : ∀ l : List UInt8, (⟨l.toArray⟩ : ByteArray).toList = l := fun l => by rw [ByteArray.toList_eq]
  show (if (⟨#[115, 105, 103, 110]⟩ : ByteArray).toList = p.toList then (8 : Int) else if (⟨#[100, 105, 103, 105, 116]⟩ : ByteArray).toList = p.toList then 7 else if (⟨#[109, 97, 114, 107]⟩ : ByteArray).toList = p.toList then 6 else if (⟨#[119, 111, 114, 100]⟩ : ByteArray).toList = p.toList then 5 else if (⟨#[101, 110, 100]⟩ : ByteArray).toList = p.toList then 4 else if (⟨#[105, 110, 110, 101, 114]⟩ : ByteArray).toList = p.toList then 3 else if (⟨#[98, 101, 103, 105, 110]⟩ : ByteArray).toList = p.toList then 2 else if (⟨#[97, 110, 121]⟩ : ByteArray).toList = p.toList then 1 else 0) = _
  rw [e [97, 110, 121], e [98, 101, 103, 105, 110], e [105, 110, 110, 101, 114], e [101, 110, 100], e [119, 111, 114, 100], e [109, 97, 114, 107], e [100, 105, 103, 105, 116], e [115, 105, 103, 110]]
  unfold idxP
  generalize p.toList = q
  by_cases h8 : q = [115, 105, 103, 110]
  · subst h8; decide
  by_cases h7 : q = [100, 105, 103, 105, 116]
  · subst h7; decide
  by_cases h6 : q = [109, 97, 114, 107]
  · subst h6; decide
  by_cases h5 : q = [119, 111, 114, 100]
  · subst h5; decide
  by_cases h4 : q = [101, 110, 100]
  · subst h4; decide
  by_cases h3 : q = [105, 110, 110, 101, 114]
  · subst h3; decide
  by_cases h2 : q = [98, 101, 103, 105, 110]
  · subst h2; decide
  by_cases h1 : q = [97, 110, 121]
  · subst h1; decide
  rw [if_neg (Ne.symm h8), if_neg (Ne.symm h7), if_neg (Ne.symm h6), if_neg (Ne.symm h5), if_neg (Ne.symm h4), if_neg (Ne.symm h3), if_neg (Ne.symm h2), if_neg (Ne.symm h1), if_neg h1, if_neg h2, if_neg h3, if_neg h4, if_neg h5, if_neg h6, if_neg h7, if_neg h8]
  by_cases h0 : q = []
  · rw [if_pos h0]; rfl
  · rw [if_neg h0]; rfl
theorem at0_size (s : ByteArray) (i : Nat) : (at0 (parts 32 s) i).size ≤ s.size := by
  unfold at0
  rw [List.getD_eq_getElem?_getD]
  cases h : (parts 32 s)[i]? with
  | none => exact Nat.zero_le _
  | some p => exact parts_size 32 s p (List.mem_of_getElem? h)
def ruleM (l : List ByteArray) (ln : Int) : Option S47 :=
  if 1 ≤ idxP (at0 l 0) ∧ (l.length : Int) = wantN (idxP (at0 l 0)) ∧ leftB (idxP (at0 l 0)) (at0 l 1) = true ∧ (parseGo (parts 45 (at0 l 2)) [] 0).2.2 = 0 ∧ (idxP (at0 l 0) ≤ 5 → (numF (at0 l 3)).2 = true) then
    some ⟨idxP (at0 l 0), at0 l 1, (parseGo (parts 45 (at0 l 2)) [] 0).1, if idxP (at0 l 0) ≤ 5 then (numF (at0 l 3)).1 else 0, ln⟩
  else none
def flat5 (x : S47) : Int × ByteArray × ByteArray × Int × Int × Bool := (x.f0, x.f1, x.f2, x.f3, x.f4, true)
theorem rule_prog (p : ByteArray) (hp : p.size ≤ 5000) (ln : Int) : ∃ y, rules_rule.f p ln = some y ∧ (match ruleM (parts 32 p) ln with
    | some x => y = flat5 x
    | none => y.2.2.2.2.2 = false) := by
  have hs1 := at0_size p 1
  have hs2 := at0_size p 2
  unfold rules_rule.f ruleO ruleM
  generalize parts 32 p = l at *
  rw [if_pos (by omega), index_words9, Option.bind_some]
  obtain ⟨hb1, hb2⟩ := idxP_bound (at0 l 0)
  generalize idxP (at0 l 0) = w at *
  by_cases hw : 1 ≤ w
  · by_cases hl : (l.length : Int) = wantN w
    · rw [if_pos ⟨hw, hl⟩, left_check w hw hb2 _ (by omega) 20 (Nat.le_refl _), Option.bind_some]
      by_cases hlf : leftB w (at0 l 1) = true
      · rw [if_pos hlf, parse_at _ (by omega), Option.bind_some]
        by_cases h5 : w ≤ 5
        · rw [if_pos h5]
          refine ⟨_, rfl, ?_⟩
          by_cases hc : (parseGo (parts 45 (at0 l 2)) [] 0).2.2 = 0
          · by_cases hn : (numF (at0 l 3)).2 = true
            · rw [if_pos ⟨hw, hl, hlf, hc, fun _ => hn⟩, if_pos h5, hn, hc]
              rfl
            · rw [if_neg (fun h => hn (h.2.2.2.2 h5))]
              simp only [Bool.eq_false_iff.2 hn, Bool.false_and]
          · rw [if_neg (fun h => hc h.2.2.2.1)]
            simp only [beq_eq_false_iff_ne.2 hc, Bool.and_false]
        · rw [if_neg h5]
          refine ⟨_, rfl, ?_⟩
          by_cases hc : (parseGo (parts 45 (at0 l 2)) [] 0).2.2 = 0
          · rw [if_pos ⟨hw, hl, hlf, hc, fun h => absurd h h5⟩, if_neg h5, hc]
            rfl
          · rw [if_neg (fun h => hc h.2.2.2.1)]
            simp only [beq_eq_false_iff_ne.2 hc]
      · rw [if_neg hlf]
        refine ⟨_, rfl, ?_⟩
        rw [if_neg (fun h => hlf h.2.2.1)]
    · rw [if_neg (fun h => hl h.2)]
      refine ⟨_, rfl, ?_⟩
      rw [if_neg (fun h => hl h.2.1)]
  · rw [if_neg (fun h => hw h.1)]
    refine ⟨_, rfl, ?_⟩
    rw [if_neg (fun h => hw h.1)]
theorem refj1_out (l : List ByteArray) (k : Nat) (c : Int) (a b : ByteArray) (d ln : Int) : r8_rule.j1 (k + 1) l true c a b d ln = some (c, a, b, d, ln, false) := by rw [r8_rule.j1, if_pos rfl]
theorem rule_ref (p : ByteArray) (hp : p.size ≤ 5000) (ln : Int) (k : Nat) (hk : 20000 ≤ k) : ∃ z, r8_rule.f k p ln = some z ∧ (match ruleM (parts 32 p) ln with
    | some x => z = flat5 x
    | none => z.2.2.2.2.2 = false) := by
  have hs1 := at0_size p 1
  have hs2 := at0_size p 2
  have hne : 0 < (parts 32 p).length := by
    unfold parts
    rw [List.length_map]
    cases h : splitOn 32 p.data.toList with
    | nil => exact absurd h (by cases h2 : p.data.toList with
      | nil => simp [splitOn]
      | cons c l => rw [splitOn]; split <;> simp)
    | cons x l => simp
  unfold r8_rule.f
  rw [fields_same p (by omega) k (by omega), Option.bind_some]
  show ∃ z, ((some words9).bind fun t200 => r8_rule.l0 k (parts 32 p) t200 1 0 ⟨#[]⟩ ⟨#[]⟩ 0 ln) = some z ∧ _
  rw [Option.bind_some]
  obtain ⟨k, rfl⟩ : ∃ m, k = m + 2 + 8 := ⟨k - 10, by omega⟩
  rw [refwords _ hne, seen_idx]
  unfold ruleM
  generalize parts 32 p = l at *
  obtain ⟨hb1, hb2⟩ := idxP_bound (at0 l 0)
  generalize idxP (at0 l 0) = w at *
  have hl9 : words9.length = 9 := rfl
  rw [show k + 2 = (k + 1) + 1 from rfl, r8_rule.l0, if_neg (by omega)]
  by_cases hw : 1 ≤ w
  · rw [if_pos hw, if_neg (by omega)]
    have fin : ∀ (hl : (l.length : Int) = wantN w), ∃ z, ((r8_left.f (k + 1) w (rdOf ByteArray.empty l 1)).bind fun t => r8_rule.j1 (k + 1) l (!t) w ⟨#[]⟩ ⟨#[]⟩ 0 ln) = some z ∧ (match (if 1 ≤ w ∧ (l.length : Int) = wantN w ∧ leftB w (at0 l 1) = true ∧ (parseGo (parts 45 (at0 l 2)) [] 0).2.2 = 0 ∧ (w ≤ 5 → (numF (at0 l 3)).2 = true) then
        some (⟨w, at0 l 1, (parseGo (parts 45 (at0 l 2)) [] 0).1, if w ≤ 5 then (numF (at0 l 3)).1 else 0, ln⟩ : S47) else none) with
        | some x => z = flat5 x
        | none => z.2.2.2.2.2 = false) := by
      intro hl
      have h3 : 3 ≤ (l.length : Int) := by rw [hl]; unfold wantN; split <;> omega
      have hr1 : rdOf ByteArray.empty l 1 = at0 l 1 := rfl
      have hr2 : rdOf ByteArray.empty l 2 = at0 l 2 := rfl
      have hr3 : rdOf ByteArray.empty l 3 = at0 l 3 := rfl
      rw [hr1, left_ref w _ (by omega) (k + 1) (by omega), Option.bind_some]
      by_cases hlf : leftB w (at0 l 1) = true
      · rw [hlf, r8_rule.j1, if_neg (by decide), if_pos (by omega), hr2, parse_same _ (by omega) k (by omega), Option.bind_some]
        have hform := parseGo_form (parts 45 (at0 l 2)) [] 0 (Int.le_refl _) (fun q hq => by have := parts_size 45 _ q hq; omega) (by have := parts_length 45 (at0 l 2); omega)
        unfold conv
        by_cases hc : (parseGo (parts 45 (at0 l 2)) [] 0).2.2 = 0
        · simp only [hc, if_true]
          rw [if_neg (by omega), if_pos (by omega)]
          by_cases h5 : w ≤ 5
          · have hw4 : wantN w = 4 := by unfold wantN; rw [if_pos ⟨hw, h5⟩]
            rw [if_pos h5, if_pos (by omega), hr3, digits_same _ k (by omega), Option.bind_some]
            refine ⟨_, rfl, ?_⟩
            by_cases hn : (numF (at0 l 3)).2 = true
            · have hpos : 0 ≤ (numF (at0 l 3)).1 := by
                rcases num_cases (at0 l 3) with ⟨_, h⟩ | ⟨_, h⟩ | ⟨a, h, _⟩ | ⟨a, b, h, _⟩
                · rw [h]; exact Int.le_refl _
                · rw [h]; exact Int.le_refl _
                · unfold numF; rw [h]
                  show 0 ≤ (if isD a = true then ((a.toNat : Int) - 48, true) else (0, false)).1
                  split
                  · next hd => have := (isD_iff a).1 hd; show 0 ≤ (a.toNat : Int) - 48; omega
                  · exact Int.le_refl _
                · unfold numF; rw [h]
                  show 0 ≤ (if isD a = true ∧ isD b = true ∧ a ≠ 48 then (((a.toNat : Int) - 48) * 10 + ((b.toNat : Int) - 48), true) else (0, false)).1
                  split
                  · next hd => have h1 := (isD_iff a).1 hd.1; have h2 := (isD_iff b).1 hd.2.1; show 0 ≤ ((a.toNat : Int) - 48) * 10 + ((b.toNat : Int) - 48); omega
                  · exact Int.le_refl _
              rw [if_pos ⟨hw, hl, trivial, trivial, fun _ => hn⟩, if_pos hn, if_pos h5, decide_eq_true hpos]
              rfl
            · rw [if_neg (fun h => hn (h.2.2.2.2 h5)), if_neg hn]
              rfl
          · rw [if_neg h5]
            refine ⟨_, rfl, ?_⟩
            rw [if_pos ⟨hw, hl, trivial, trivial, fun h => absurd h h5⟩, if_neg h5]
            rfl
        · have hge : 0 ≤ (parseGo (parts 45 (at0 l 2)) [] 0).2.1 := by
            rcases hform with h | h
            · exact absurd h.1 hc
            · exact h.2.1
          simp only [hc, if_false]
          rw [if_pos hge]
          refine ⟨_, rfl, ?_⟩
          rw [if_neg (fun h => h.2.2.2.1)]
      · rw [Bool.eq_false_iff.2 hlf]
        show ∃ z, r8_rule.j1 (k + 1) l true w ⟨#[]⟩ ⟨#[]⟩ 0 ln = some z ∧ _
        rw [refj1_out]
        refine ⟨_, rfl, ?_⟩
        rw [if_neg (fun h => by have := h.2.2.1; cases this)]
    by_cases h5 : w ≤ 5
    · have hw4 : wantN w = 4 := by unfold wantN; rw [if_pos ⟨hw, h5⟩]
      rw [if_pos h5]
      by_cases hl : (l.length : Int) = 4
      · rw [if_pos hl, if_neg (by omega), if_pos (by omega)]
        exact fin (by rw [hw4]; exact hl)
      · rw [if_neg hl, refj1_out]
        refine ⟨_, rfl, ?_⟩
        rw [if_neg (fun h => hl (by rw [h.2.1, hw4]))]
    · have hw3 : wantN w = 3 := by unfold wantN; rw [if_neg (fun h => h5 h.2)]
      rw [if_neg h5, if_pos (by omega)]
      by_cases hl : (l.length : Int) = 3
      · rw [if_pos hl, if_pos (by omega)]
        exact fin (by rw [hw3]; exact hl)
      · rw [if_neg hl, refj1_out]
        refine ⟨_, rfl, ?_⟩
        rw [if_neg (fun h => hl (by rw [h.2.1, hw3]))]
  · rw [if_neg hw, if_pos rfl, refj1_out]
    refine ⟨_, rfl, ?_⟩
    rw [if_neg (fun h => hw h.1)]
end Go.Proofs.YtgjkjoocnkdckaaGreatDoor.PureC
