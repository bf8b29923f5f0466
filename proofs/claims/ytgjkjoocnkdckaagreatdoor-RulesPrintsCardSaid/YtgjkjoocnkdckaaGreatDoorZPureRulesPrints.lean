import Derived.Test.YtgjkjoocnkdckaaGreatDoorZPureRulE
import Derived.Test.YtgjkjoocnkdckaaGreatDoorZPureRulesBack
import Derived.Test.YtgjkjoocnkdckaaGreatDoorZPChk16
namespace Go.Proofs.YtgjkjoocnkdckaaGreatDoor.PureC
open Go.RowKit Go.Proofs.YtgjkjoocnkdckaaGreatDoor.PChk Go.Proofs.YtgjkjoocnkdckaaGreatDoor.G Go.Proofs.YtgjkjoocnkdckaaGreatDoor.PureD Go.Proofs.YtgjkjoocnkdckaaGreatDoorW.PrintWords Go.Proofs.YtgjkjoocnkdckaaGreatDoorW.PrintLast
set_option linter.unusedSimpArgs false
theorem ba_app (a b : ByteArray) : (a ++ b).data.toList = a.data.toList ++ b.data.toList := by rw [ByteArray.data_append, Array.toList_append]
theorem ref_model : ∀ (l : List Rl) (acc : ByteArray), (∀ x ∈ l, x.f1.size ≤ 50 ∧ x.f2.size ≤ 50) → refO l acc = some (if l.all mayB = true then (⟨(acc.data.toList ++ joinT l).toArray⟩, 0) else (⟨#[]⟩, 1))
  | [], acc, _ => by
    rw [refO, joinT, List.append_nil]
    rfl
  | x :: l, acc, h => by
    have hx := h x List.mem_cons_self
    rw [refO, may_ref x 1000 (by omega) (by omega) (by omega), Option.bind_some, List.all_cons]
    by_cases hm : mayB x = true
    · obtain ⟨⟨h1, h8⟩, hl, hp, h5, h6⟩ := may_parts x hm
      obtain ⟨k1, k2, k3⟩ := okc_of x.f2 hp
      have hsz : (printOf x.f2.data.toList).1.size ≤ 100 := by
        unfold printOf
        rw [if_pos ⟨k1, k2, k3⟩]
        have := jd_len x.f2.data.toList
        show (jd x.f2.data.toList).length ≤ 100
        omega
      have hf : fitsP x (printOf x.f2.data.toList).1 = true := by
        unfold fitsP
        exact decide_eq_true ⟨h1, h8, by omega, by omega, fun c => by have := h5 c; omega⟩
      rw [if_pos hm, refprint_at x.f2 (by omega) 1000 (by omega), Option.bind_some, if_pos hf, ref_model l _ (fun y hy => h y (List.mem_cons_of_mem _ hy)), hm, Bool.true_and]
      have e : (refTail x (refLine acc x (printOf x.f2.data.toList).1) ++ (⟨#[10]⟩ : ByteArray)).data.toList ++ joinT l = acc.data.toList ++ joinT (x :: l) := by
        have e1 : (refLine acc x (printOf x.f2.data.toList).1).data.toList = acc.data.toList ++ (lineB x (printOf x.f2.data.toList).1).data.toList := by
          unfold refLine lineB
          simp only [ba_app, List.append_assoc]
        have e2 : (refTail x (refLine acc x (printOf x.f2.data.toList).1)).data.toList = (refLine acc x (printOf x.f2.data.toList).1).data.toList ++ tailL x := by
          unfold refTail tailL
          by_cases c5 : x.f0 ≤ 5
          · rw [if_pos c5, if_pos c5, ba_app]
          · rw [if_neg c5, if_neg c5, List.append_nil]
        rw [ba_app, e2, e1, joinT]
        unfold lineT
        simp only [List.append_assoc]
      rw [e]
    · rw [if_neg hm, Bool.eq_false_iff.2 hm, Bool.false_and]
      rfl
theorem prints_same (l : List Rl) (h : ∀ x ∈ l, x.f1.size ≤ 50 ∧ x.f2.size ≤ 50) : ∃ r, rules_Print.f l = some r ∧ r8_Print.f l = some r := by
  unfold rules_Print.f r8_Print.f
  by_cases h4 : l.length > 400
  · rw [if_pos h4, if_pos h4]
    exact ⟨_, rfl, rfl⟩
  · rw [if_neg h4, if_neg h4, prt_model l [] (fun x hx => by have := h x hx; omega), ref_model l ⟨#[]⟩ h]
    exact ⟨_, rfl, rfl⟩
theorem of_go8 (l : List Rl) (hl : l.length ≤ 500) (what : Int) (left : ByteArray) : ∀ (n k i : Nat), i + n = l.length → n + 1 ≤ k → r8_Of.l0 k l what left (i : Int) = some (ofL what left (l.drop i))
  | 0, k, i, hi, hk => by
    obtain ⟨k, rfl⟩ : ∃ m, k = m + 1 := ⟨k - 1, by omega⟩
    rw [r8_Of.l0, if_neg (by omega), List.drop_of_length_le (by omega)]
    rfl
  | n + 1, k, i, hi, hk => by
    obtain ⟨k, rfl⟩ : ∃ m, k = m + 1 := ⟨k - 1, by omega⟩
    have hlt : i < l.length := by omega
    have hd : l.drop i = l[i] :: l.drop (i + 1) := List.drop_eq_getElem_cons hlt
    rw [r8_Of.l0, if_pos (by omega), if_pos (by omega), rd_rb l i hlt, hd, ofL, wrap_of (by omega) (by omega), show ((i : Int) + 1) = ((i + 1 : Nat) : Int) from by omega, of_go8 l hl what left n k (i + 1) (by omega) (by omega)]
    unfold isOf
    by_cases h1 : l[i].f0 = what
    · rw [if_pos h1, beq_iff_eq.2 h1, Bool.true_and]
      by_cases h2 : l[i].f1.toList = left.toList
      · rw [if_pos h2, if_pos (beq_iff_eq.2 h2)]
      · rw [if_neg h2, if_neg (fun h => h2 (beq_iff_eq.1 h))]
    · rw [if_neg h1, beq_eq_false_iff_ne.2 h1, Bool.false_and, if_neg (by decide)]
theorem of_same8 (l : List Rl) (hl : l.length ≤ 500) (what : Int) (left : ByteArray) (k : Nat) (hk : 600 ≤ k) : r8_Of.f k l what left = some (ofL what left l) ∧ rules_of.f l what left = some (ofL what left l) := by
  refine ⟨?_, ?_⟩
  · have h := of_go8 l hl what left l.length k 0 (by omega) (by omega)
    rw [show ((0 : Nat) : Int) = 0 from rfl, List.drop_zero] at h
    exact h
  · unfold rules_of.f
    rw [if_pos (by omega)]
theorem prints_end (l : List Rl) (hl : l.length ≤ 500) (k : Nat) (hk : 700 ≤ k) (i : Int) : w8_RulesPrints.j4 (k + 1) l l i false = some true := by
  rw [w8_RulesPrints.j4, if_neg (by decide), same_is l (by omega) k (by omega), Option.bind_some, if_pos rfl, awake_is k (by omega)]
  rfl
theorem prints_go (l : List Rl) (hl : l.length ≤ 500) (hx : ∀ x ∈ l, x.f1.size ≤ 50 ∧ x.f2.size ≤ 50) : ∀ (n k i : Nat), i + n = l.length → 700 ≤ k → w8_RulesPrints.l1 (k + 2 + 2 * n) l l (i : Int) = some true
  | 0, k, i, hi, hk => by
    rw [Nat.mul_zero, Nat.add_zero, w8_RulesPrints.l1, if_neg (by omega)]
    exact prints_end l hl k hk _
  | n + 1, k, i, hi, hk => by
    have hlt : i < l.length := by omega
    have hs := hx l[i] (List.getElem_mem hlt)
    rw [show k + 2 + 2 * (n + 1) = (k + 2 + 2 * n) + 1 + 1 from by omega, w8_RulesPrints.l1, if_pos (by omega)]
    by_cases h50 : (i : Int) < 50
    · rw [decide_eq_true h50, w8_RulesPrints.j4, if_pos rfl, if_pos (by omega), if_pos (by omega), rd_rb l i hlt, may_check l[i] _ (by omega) (by omega) (by omega), Option.bind_some, if_pos (by omega), may_ref l[i] _ (by omega) (by omega) (by omega), Option.bind_some, if_neg (by simp), wrap_of (by omega) (by omega), show ((i : Int) + 1) = ((i + 1 : Nat) : Int) from by omega]
      exact prints_go l hl hx n k (i + 1) (by omega) hk
    · rw [decide_eq_false h50]
      have h := prints_end l hl (k + 2 + 2 * n) (by omega) (i : Int)
      exact h
theorem names_step (l : List Rl) (k i : Nat) (h : i < 13) : w8_RulesPrints.l0 (k + 1) l l namesL namesL (i : Int) = w8_RulesPrints.l0 k l l namesL namesL ((i + 1 : Nat) : Int) := by
  have e : (namesL.length : Int) = 13 := rfl
  rw [w8_RulesPrints.l0, e, if_pos (by omega), if_pos rfl, if_pos (by omega), if_pos (by omega), if_pos rfl, wrap_of (by omega) (by omega)]
  rfl
theorem names_end (l : List Rl) (k : Nat) : w8_RulesPrints.l0 (k + 14) l l namesL namesL 0 = w8_RulesPrints.l1 k l l 0 := by
  have h : ∀ n i : Nat, i + n = 13 → w8_RulesPrints.l0 (k + 1 + n) l l namesL namesL (i : Int) = w8_RulesPrints.l1 k l l 0 := by
    intro n
    induction n with
    | zero =>
      intro i hi
      obtain rfl : i = 13 := by omega
      rw [Nat.add_zero, w8_RulesPrints.l0, if_neg (by decide), if_pos (by decide)]
    | succ n ih =>
      intro i hi
      rw [show k + 1 + (n + 1) = (k + 1 + n) + 1 from by omega, names_step l _ i (by omega)]
      exact ih (i + 1) (by omega)
  exact h 13 0 rfl
theorem rulesPrints_true (l0 : List Rl) (a1 : ByteArray) (a2 : Int) (_ : a1.size ≤ 140737488351232) (_ : (Lit.int .u8 a2).wf = true) : ∃ k, w8_RulesPrints.f k l0 a1 a2 = some true := by
  refine ⟨3003, ?_⟩
  have out : w8_RulesPrints.j0 3003 l0 a1 a2 true = some true := by
    rw [show (3003 : Nat) = 3002 + 1 from rfl, w8_RulesPrints.j0, if_pos rfl, awake_is 3002 (by decide)]
    rfl
  unfold w8_RulesPrints.f
  rcases long_is8 l0 3003 (by decide) with h | ⟨h, hl, hx⟩
  · rw [h, Option.bind_some, if_pos rfl]
    exact out
  · rw [h, Option.bind_some, if_neg (by decide)]
    by_cases h5 : (a1.size : Int) > 50
    · rw [decide_eq_true h5]
      exact out
    · obtain ⟨⟨t, e⟩, p1, p2⟩ := prints_same l0 hx
      have hj : w8_RulesPrints.j1 3002 l0 l0 false = some true := by
        rw [show (3002 : Nat) = 3001 + 1 from rfl, w8_RulesPrints.j1, if_neg (by decide), names_check, Option.bind_some, names_ref, Option.bind_some, show (3001 : Nat) = 2987 + 14 from rfl, names_end]
        have hg := prints_go l0 hl hx l0.length (2985 - 2 * l0.length) 0 (by omega) (by omega)
        rw [show 2985 - 2 * l0.length + 2 + 2 * l0.length = 2987 from by omega] at hg
        exact hg
      have hof := fun w s => of_same8 l0 hl w s 3002 (by decide)
      rw [decide_eq_false h5, show (3003 : Nat) = 3002 + 1 from rfl, w8_RulesPrints.j0, if_neg (by decide)]
      simp only [Option.bind_some, List.nil_append, List.length_nil]
      rw [if_pos (by omega), p1, Option.bind_some, p2, Option.bind_some, if_pos rfl, if_pos rfl]
      unfold rules_Sign.f r8_Sign.f rules_Mark.f r8_Mark.f rules_Digit.f r8_Digit.f
      simp only [(hof _ _).1, (hof _ _).2, Option.bind_some, if_pos rfl]
      rw [show ((ofL 7 (strOfNums [a2]) l0).toList != (ofL 7 (strOfNums [a2]) l0).toList) = false from by simp]
      exact hj
end Go.Proofs.YtgjkjoocnkdckaaGreatDoor.PureC
