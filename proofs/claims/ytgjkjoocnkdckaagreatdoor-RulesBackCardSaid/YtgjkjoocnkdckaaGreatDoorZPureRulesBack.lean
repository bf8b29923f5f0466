import Derived.Test.YtgjkjoocnkdckaaGreatDoorZPureRul9
import Derived.Test.YtgjkjoocnkdckaaGreatDoorZPChk13
namespace Go.Proofs.YtgjkjoocnkdckaaGreatDoor.PureC
open Go.RowKit Go.Proofs.YtgjkjoocnkdckaaGreatDoor.PChk Go.Proofs.YtgjkjoocnkdckaaGreatDoor.G Go.Proofs.YtgjkjoocnkdckaaGreatDoor.PureD Go.Proofs.YtgjkjoocnkdckaaGreatDoorW.PrintWords Go.Proofs.YtgjkjoocnkdckaaGreatDoorW.PrintLast
set_option linter.unusedSimpArgs false
theorem rd_rb (l : List Rl) (i : Nat) (h : i < l.length) : rd_T47 l (i : Int) = l[i] := by
  unfold rd_T47
  rw [show ((i : Int)).toNat = i from rfl, List.getD_eq_getElem?_getD, List.getElem?_eq_getElem h]
  rfl
def longB8 (x : Rl) : Bool := decide (50 < x.f1.size ∨ 50 < x.f2.size)
theorem long_go8 (l : List Rl) (hl : l.length ≤ 500) : ∀ (n k i : Nat), i + n = l.length → n + 1 ≤ k → w8_long.l0 k l (i : Int) = some ((l.drop i).any longB8)
  | 0, k, i, hi, hk => by
    obtain ⟨k, rfl⟩ : ∃ m, k = m + 1 := ⟨k - 1, by omega⟩
    rw [w8_long.l0, if_neg (by omega), List.drop_of_length_le (by omega)]
    rfl
  | n + 1, k, i, hi, hk => by
    obtain ⟨k, rfl⟩ : ∃ m, k = m + 1 := ⟨k - 1, by omega⟩
    have hlt : i < l.length := by omega
    have hd : l.drop i = l[i] :: l.drop (i + 1) := List.drop_eq_getElem_cons hlt
    rw [w8_long.l0, if_pos (by omega), if_pos (by omega), rd_rb l i hlt, hd, List.any_cons, wrap_of (by omega) (by omega), show ((i : Int) + 1) = ((i + 1 : Nat) : Int) from by omega, long_go8 l hl n k (i + 1) (by omega) (by omega)]
    unfold longB8
    by_cases h1 : (l[i].f1.size : Int) > 50
    · rw [if_pos h1, decide_eq_true (Or.inl (by omega)), Bool.true_or]
    · rw [if_neg h1]
      by_cases h2 : (l[i].f2.size : Int) > 50
      · rw [if_pos h2, decide_eq_true (Or.inr (by omega)), Bool.true_or]
      · rw [if_neg h2, decide_eq_false (by omega), Bool.false_or]
theorem long_is8 (l : List Rl) (k : Nat) (hk : 600 ≤ k) : w8_long.f k l = some true ∨ (w8_long.f k l = some false ∧ l.length ≤ 500 ∧ ∀ x ∈ l, x.f1.size ≤ 50 ∧ x.f2.size ≤ 50) := by
  unfold w8_long.f
  by_cases h : (l.length : Int) > 500
  · exact Or.inl (if_pos h)
  · rw [if_neg h]
    have hg := long_go8 l (by omega) l.length k 0 (by omega) (by omega)
    rw [show ((0 : Nat) : Int) = 0 from rfl, List.drop_zero] at hg
    cases ha : l.any longB8 with
    | true => exact Or.inl (by rw [hg, ha])
    | false =>
      refine Or.inr ⟨by rw [hg, ha], by omega, fun x hx => ?_⟩
      have h1 : longB8 x = false := Bool.eq_false_iff.2 fun h => by
        have h2 : l.any longB8 = true := List.any_eq_true.2 ⟨x, hx, h⟩
        rw [ha] at h2
        cases h2
      unfold longB8 at h1
      rw [decide_eq_false_iff_not] at h1
      exact ⟨by omega, by omega⟩
theorem unl_f (l : List Rl) (h : l.length ≤ 500) : r8_Unlined.f l = some (unlGo l 0) := by
  unfold r8_Unlined.f
  rw [if_pos (by omega)]
theorem back_end (l : List Rl) (ha : ∀ x ∈ l, mayB x = true ∧ x.f1.size ≤ 50 ∧ x.f2.size ≤ 50) (hl : l.length ≤ 400) (k : Nat) (hk : 2000 ≤ k) : w8_RulesBack.l0 (k + 1) l (l.length : Int) = some true := by
  have hall : l.all mayB = true := List.all_eq_true.2 (fun x hx => (ha x hx).1)
  obtain ⟨p1, p2⟩ := print_parse l hall hl (fun x hx => (ha x hx).2)
  rw [w8_RulesBack.l0, if_neg (by omega), p1, Option.bind_some, p2, Option.bind_some, if_pos rfl, if_pos rfl, unl_f l (by omega), Option.bind_some, same_is _ (by rw [unl_len]; omega) k (by rw [unl_len]; omega), Option.bind_some, if_pos rfl, awake_is k (by omega)]
  rfl
theorem back_go (l : List Rl) (ha : ∀ x ∈ l, mayB x = true ∧ x.f1.size ≤ 50 ∧ x.f2.size ≤ 50) (hr : risesB l 0) (hl : l.length ≤ 400) : ∀ (n k i : Nat), i + n = l.length → 2000 ≤ k →
    w8_RulesBack.l0 (k + 1 + n) l (i : Int) = some true
  | 0, k, i, hi, hk => by
    rw [show i = l.length from by omega]
    exact back_end l ha hl k hk
  | n + 1, k, i, hi, hk => by
    have hlt : i < l.length := by omega
    have hm := ha l[i] (List.getElem_mem hlt)
    have hp := rises_pos l 0 hr l[i] (List.getElem_mem hlt)
    have ih := back_go l ha hr hl n k (i + 1) (by omega) hk
    rw [show k + 1 + (n + 1) = (k + 1 + n) + 1 from by omega, w8_RulesBack.l0, if_pos (by omega), if_pos (by omega), rd_rb l i hlt, may_check l[i] _ (by omega) (by omega) (by omega), Option.bind_some, hm.1, if_pos rfl, if_neg (by omega), wrap_of (x := (i : Int) + 1) (by omega) (by omega), show ((i : Int) + 1) = ((i + 1 : Nat) : Int) from by omega]
    by_cases h0 : (i : Int) > 0
    · obtain ⟨j, rfl⟩ : ∃ j, i = j + 1 := ⟨i - 1, by omega⟩
      have hw : wrap64 (((j + 1 : Nat) : Int) - 1) = (j : Int) := by rw [wrap_of (by omega) (by omega)]; omega
      have hlt2 : j < l.length := by omega
      have hrs := rises_at l 0 j l[j] l[j + 1] hr (List.getElem?_eq_getElem _) (List.getElem?_eq_getElem _)
      rw [if_pos h0, hw, if_pos (by omega), if_pos (by omega), rd_rb l j hlt2, if_neg (by omega)]
      exact ih
    · rw [if_neg h0]
      exact ih
theorem back_text (s : ByteArray) (hs : s.size ≤ 5000) : w8_RulesBack.j1 3001 s = some true := by
  have hform := parseM_form (parts 10 s) [] 0
  obtain ⟨hm, hr⟩ := parse_may (parts 10 s) [] 0 (Int.le_refl _) (fun x hx => by cases hx) trivial
  have hlen := parseT_len s
  rw [w8_RulesBack.j1, parse_prog s hs, Option.bind_some]
  change (parseT s).2.2 = 0 ∧ (parseT s).2.1 = 0 ∨ (parseT s).2.2 ≠ 0 ∧ (parseT s).1 = [] ∧ 0 + 1 ≤ (parseT s).2.1 ∧ _ at hform
  change ∀ x ∈ (parseT s).1, _ at hm
  change risesB (parseT s).1 0 at hr
  generalize parseT s = r at *
  rcases hform with ⟨h0, h1⟩ | ⟨h0, h1, h2, h3⟩
  · rw [if_pos h0]
    have h := back_go r.1 hm hr hlen r.1.length (2999 - r.1.length) 0 (by omega) (by omega)
    rw [show 2999 - r.1.length + 1 + r.1.length = 3000 from by omega, show ((0 : Nat) : Int) = 0 from rfl] at h
    exact h
  · rw [if_neg h0, h1, if_pos (show ((([] : List Rl).length : Nat) : Int) = 0 from rfl), if_pos (by omega), awake_is 3000 (by decide)]
    rfl
theorem rulesBack_true (l0 : List Rl) (a1 : ByteArray) (_ : a1.size ≤ 140737488351232) : ∃ k, w8_RulesBack.f k l0 a1 = some true := by
  refine ⟨3003, ?_⟩
  have out : w8_RulesBack.j0 3003 l0 a1 true = some true := by
    rw [show (3003 : Nat) = 3002 + 1 from rfl, w8_RulesBack.j0, if_pos rfl, awake_is 3002 (by decide)]
    rfl
  unfold w8_RulesBack.f
  rcases long_is8 l0 3003 (by decide) with h | ⟨h, hl, hx⟩
  · rw [h, Option.bind_some, if_pos rfl]
    exact out
  · rw [h, Option.bind_some, if_neg (by decide)]
    by_cases h5 : (a1.size : Int) > 5000
    · rw [decide_eq_true h5]
      exact out
    · have ht := back_text a1 (by omega)
      have ht2 : w8_RulesBack.j1 3002 a1 = some true := at_rounds (g := fun k => w8_RulesBack.j1 k a1) (fun k => (w8_RulesBack.mono_l k).2.1 _) (show 3001 ≤ 3002 by decide) ht
      rw [decide_eq_false h5, show (3003 : Nat) = 3002 + 1 from rfl, w8_RulesBack.j0, if_neg (by decide)]
      by_cases h4 : l0.length > 400
      · unfold rules_Print.f
        rw [if_pos h4, Option.bind_some, if_neg (by show ¬ (4 : Int) = 0; decide)]
        exact ht2
      · cases hall : l0.all mayB with
        | true =>
          obtain ⟨p1, p2⟩ := print_parse l0 hall (by omega) hx
          rw [p1, Option.bind_some, if_pos rfl, p2, Option.bind_some, if_neg (by show ¬ (0 : Int) = 4; decide), if_pos rfl, if_pos rfl, unl_f l0 hl, Option.bind_some, same_is _ (by rw [unl_len]; omega) 3002 (by rw [unl_len]; omega), Option.bind_some, if_pos rfl]
          exact ht2
        | false =>
          unfold rules_Print.f
          rw [if_neg h4, prt_model l0 [] (fun x h => by have := hx x h; omega), hall, if_neg (by decide), Option.bind_some, if_neg (by show ¬ (1 : Int) = 0; decide)]
          exact ht2
end Go.Proofs.YtgjkjoocnkdckaaGreatDoor.PureC
