import Derived.Test.YtgjkjoocnkdckaaGreatDoorZPureRul3
namespace Go.Proofs.YtgjkjoocnkdckaaGreatDoor.PureC
open Go.RowKit Go.Proofs.YtgjkjoocnkdckaaGreatDoor.PChk Go.Proofs.YtgjkjoocnkdckaaGreatDoor.G Go.Proofs.YtgjkjoocnkdckaaGreatDoorW.PrintWords Go.Proofs.YtgjkjoocnkdckaaGreatDoorW.PrintLast
set_option linter.unusedSimpArgs false
def skipB (p : ByteArray) : Bool := decide (p.size = 0) || bt p 0 == 35
def parseM : List ByteArray → List Rl → Int → List Rl × Int × Int
  | [], acc, _ => (acc, 0, 0)
  | p :: ps, acc, ln =>
    if skipB p = true then parseM ps acc (ln + 1) else
      match ruleM (parts 32 p) (ln + 1) with
      | some x => if acc.length = 400 then ([], ln + 1, 4) else parseM ps (acc ++ [x]) (ln + 1)
      | none => ([], ln + 1, 6)
theorem skip_iff (p : ByteArray) : skipB p = true ↔ (p.size = 0 ∨ bt p 0 = 35) := by
  unfold skipB
  rw [Bool.or_eq_true, decide_eq_true_eq, beq_iff_eq]
theorem prs_model : ∀ (ps : List ByteArray) (acc : List Rl) (ln : Int), (∀ p ∈ ps, p.size ≤ 5000) → prsO ps acc ln = some (parseM ps acc ln)
  | [], acc, ln, _ => rfl
  | p :: ps, acc, ln, h => by
    have hp := h p List.mem_cons_self
    have hr : ∀ q ∈ ps, q.size ≤ 5000 := fun q hq => h q (List.mem_cons_of_mem _ hq)
    rw [parseM]
    by_cases hs : p.size = 0 ∨ bt p 0 = 35
    · rw [prs_skip _ _ _ _ hs, if_pos ((skip_iff p).2 hs)]
      exact prs_model ps acc (ln + 1) hr
    · rw [prs_take _ _ _ _ hs, if_neg (fun h => hs ((skip_iff p).1 h))]
      obtain ⟨y, hy, hm⟩ := rule_prog p hp (ln + 1)
      rw [hy, Option.bind_some]
      cases hx : ruleM (parts 32 p) (ln + 1) with
      | none =>
        rw [hx] at hm
        simp only at hm
        rw [hm, if_neg (by decide)]
      | some x =>
        rw [hx] at hm
        simp only at hm
        rw [hm]
        show (if true = true then _ else _) = _
        rw [if_pos rfl]
        by_cases h4 : acc.length = 400
        · rw [if_pos h4]
          simp only [h4, if_true]
        · rw [if_neg h4]
          simp only [h4, if_false]
          exact prs_model ps (acc ++ [x]) (ln + 1) hr
def parseT (s : ByteArray) : List Rl × Int × Int := parseM (parts 10 s) [] 0
theorem parse_prog (s : ByteArray) (hs : s.size ≤ 5000) : rules_Parse.f s = some (parseT s) := by
  unfold rules_Parse.f parseT
  rw [if_neg (by omega)]
  exact prs_model _ _ _ (fun p hp => by have := parts_size 10 s p hp; omega)
end Go.Proofs.YtgjkjoocnkdckaaGreatDoor.PureC
