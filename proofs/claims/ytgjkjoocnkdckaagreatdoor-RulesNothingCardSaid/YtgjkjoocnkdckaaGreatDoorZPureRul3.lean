import Derived.Test.YtgjkjoocnkdckaaGreatDoorZPureRul2
namespace Go.Proofs.YtgjkjoocnkdckaaGreatDoor.PureC
open Go.RowKit Go.Proofs.YtgjkjoocnkdckaaGreatDoor.PChk Go.Proofs.YtgjkjoocnkdckaaGreatDoor.G Go.Proofs.YtgjkjoocnkdckaaGreatDoorW.PrintWords Go.Proofs.YtgjkjoocnkdckaaGreatDoorW.PrintLast
set_option linter.unusedSimpArgs false
def idxP (p : ByteArray) : Int :=
  if p.toList = [] then 0 else if p.toList = [97, 110, 121] then 1 else if p.toList = [98, 101, 103, 105, 110] then 2 else if p.toList = [105, 110, 110, 101, 114] then 3 else if p.toList = [101, 110, 100] then 4
  else if p.toList = [119, 111, 114, 100] then 5 else if p.toList = [109, 97, 114, 107] then 6 else if p.toList = [100, 105, 103, 105, 116] then 7 else if p.toList = [115, 105, 103, 110] then 8 else -1
theorem idxP_bound (p : ByteArray) : -1 ≤ idxP p ∧ idxP p ≤ 8 := by
  unfold idxP
  repeat' split
  all_goals omega
theorem index_step (a : ByteArray) (k i : Nat) (hi : i < 9) : slices_Index_string_string.l0 (k + 1) words9 a 9 (i : Int) = if a.toList = (words9[i]'hi).toList then some (i : Int) else slices_Index_string_string.l0 k words9 a 9 ((i + 1 : Nat) : Int) := by
  have hl : words9.length = 9 := rfl
  rw [slices_Index_string_string.l0, if_pos (by omega), if_pos (by omega), if_pos (by omega), rd_at words9 i hi, wrap_of (x := (i : Int) + 1) (by omega) (by omega), show ((i : Int) + 1) = ((i + 1 : Nat) : Int) from by omega]
theorem index_words9 (a : ByteArray) : slices_Index_string_string.f 20 words9 a = some (idxP a) := by
  have h9 : slices_Index_string_string.l0 11 words9 a 9 ((9 : Nat) : Int) = some (-1) := by rw [slices_Index_string_string.l0, if_neg (by omega)]
  have h : slices_Index_string_string.f 20 words9 a = slices_Index_string_string.l0 20 words9 a 9 ((0 : Nat) : Int) := rfl
  rw [h, index_step a 19 0 (by decide), index_step a 18 1 (by decide), index_step a 17 2 (by decide), index_step a 16 3 (by decide), index_step a 15 4 (by decide), index_step a 14 5 (by decide), index_step a 13 6 (by decide), index_step a 12 7 (by decide), index_step a 11 8 (by decide), h9]
  unfold idxP
  have e : ∀ l : List UInt8, (⟨l.toArray⟩ : ByteArray).toList = l := fun l => by rw [ByteArray.toList_eq]
  show (if a.toList = (⟨#[]⟩ : ByteArray).toList then _ else if a.toList = (⟨#[97, 110, 121]⟩ : ByteArray).toList then _ else if a.toList = (⟨#[98, 101, 103, 105, 110]⟩ : ByteArray).toList then _ else if a.toList = (⟨#[105, 110, 110, 101, 114]⟩ : ByteArray).toList then _ else if a.toList = (⟨#[101, 110, 100]⟩ : ByteArray).toList then _ else if a.toList = (⟨#[119, 111, 114, 100]⟩ : ByteArray).toList then _ else if a.toList = (⟨#[109, 97, 114, 107]⟩ : ByteArray).toList then _ else if a.toList = (⟨#[100, 105, 103, 105, 116]⟩ : ByteArray).toList then _ else if a.toList = (⟨#[115, 105, 103, 110]⟩ : ByteArray).toList then _ else _) = _
  rw [e [], e [97, 110, 121], e [98, 101, 103, 105, 110], e [105, 110, 110, 101, 114], e [101, 110, 100], e [119, 111, 114, 100], e [109, 97, 114, 107], e [100, 105, 103, 105, 116], e [115, 105, 103, 110]]
  repeat' split
  all_goals rfl
theorem at0_size (s : ByteArray) (i : Nat) : (at0 (parts 32 s) i).size ≤ s.size := by
  unfold at0
  rw [List.getD_eq_getElem?_getD]
  cases h : (parts 32 s)[i]? with
  | none => exact Nat.zero_le _
  | some p => exact parts_size 32 s p (List.mem_of_getElem? h)
def ruleM (l : List ByteArray) (ln : Int) : Option S47 :=
  if 1 ≤ idxP (at0 l 0) ∧ (l.length : Int) = wantN (idxP (at0 l 0)) ∧ leftB (idxP (at0 l 0)) (at0 l 1) = true ∧ (parseGo (parts 45 (at0 l 2)) [] 0).2.2 = 0 ∧ (idxP (at0 l 0) ≤ 5 → (numF (at0 l 3)).2 = true) then
    some ⟨idxP (at0 l 0), at0 l 1, (parseGo (parts 45 (at0 l 2)) [] 0).1, if idxP (at0 l 0) ≤ 5 then (numF (at0 l 3)).1 else 0, ln⟩
  else none
def flat5 (x : S47) : Int × ByteArray × ByteArray × Int × Int × Bool := (x.f0, x.f1, x.f2, x.f3, x.f4, true)
theorem rule_prog (p : ByteArray) (hp : p.size ≤ 5000) (ln : Int) : ∃ y, rules_rule.f p ln = some y ∧ (match ruleM (parts 32 p) ln with
    | some x => y = flat5 x
    | none => y.2.2.2.2.2 = false) := by
  have hs1 := at0_size p 1
  have hs2 := at0_size p 2
  unfold rules_rule.f ruleO ruleM
  generalize parts 32 p = l at *
  rw [if_pos (by omega), index_words9, Option.bind_some]
  obtain ⟨hb1, hb2⟩ := idxP_bound (at0 l 0)
  generalize idxP (at0 l 0) = w at *
  by_cases hw : 1 ≤ w
  · by_cases hl : (l.length : Int) = wantN w
    · rw [if_pos ⟨hw, hl⟩, left_check w hw hb2 _ (by omega) 20 (Nat.le_refl _), Option.bind_some]
      by_cases hlf : leftB w (at0 l 1) = true
      · rw [if_pos hlf, parse_at _ (by omega), Option.bind_some]
        by_cases h5 : w ≤ 5
        · rw [if_pos h5]
          refine ⟨_, rfl, ?_⟩
          by_cases hc : (parseGo (parts 45 (at0 l 2)) [] 0).2.2 = 0
          · by_cases hn : (numF (at0 l 3)).2 = true
            · rw [if_pos ⟨hw, hl, hlf, hc, fun _ => hn⟩, if_pos h5, hn, hc]
              rfl
            · rw [if_neg (fun h => hn (h.2.2.2.2 h5))]
              simp only [Bool.eq_false_iff.2 hn, Bool.false_and]
          · rw [if_neg (fun h => hc h.2.2.2.1)]
            simp only [beq_eq_false_iff_ne.2 hc, Bool.and_false]
        · rw [if_neg h5]
          refine ⟨_, rfl, ?_⟩
          by_cases hc : (parseGo (parts 45 (at0 l 2)) [] 0).2.2 = 0
          · rw [if_pos ⟨hw, hl, hlf, hc, fun h => absurd h h5⟩, if_neg h5, hc]
            rfl
          · rw [if_neg (fun h => hc h.2.2.2.1)]
            simp only [beq_eq_false_iff_ne.2 hc]
      · rw [if_neg hlf]
        refine ⟨_, rfl, ?_⟩
        rw [if_neg (fun h => hlf h.2.2.1)]
    · rw [if_neg (fun h => hl h.2)]
      refine ⟨_, rfl, ?_⟩
      rw [if_neg (fun h => hl h.2.1)]
  · rw [if_neg (fun h => hw h.1)]
    refine ⟨_, rfl, ?_⟩
    rw [if_neg (fun h => hw h.1)]
end Go.Proofs.YtgjkjoocnkdckaaGreatDoor.PureC
