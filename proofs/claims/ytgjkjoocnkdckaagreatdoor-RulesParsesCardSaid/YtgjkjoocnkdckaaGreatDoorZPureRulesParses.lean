import Derived.Test.YtgjkjoocnkdckaaGreatDoorZPureRul5
import Derived.Test.YtgjkjoocnkdckaaGreatDoorZPChk10
namespace Go.Proofs.YtgjkjoocnkdckaaGreatDoor.Pure
open Go.RowKit Go.Proofs.YtgjkjoocnkdckaaGreatDoor.PChk Go.Proofs.YtgjkjoocnkdckaaGreatDoor.G Go.Proofs.YtgjkjoocnkdckaaGreatDoor.PureC Go.Proofs.YtgjkjoocnkdckaaGreatDoorW.PrintWords Go.Proofs.YtgjkjoocnkdckaaGreatDoorW.PrintLast
theorem parses_in (s : ByteArray) (hs : s.size ≤ 5000) : w8_RulesParses.j0 60001 s false = some true := by
  rw [w8_RulesParses.j0, if_neg (by decide), parse_prog s hs, Option.bind_some, if_neg (by omega), parse_ref s hs 60000 (by decide), Option.bind_some]
  have hl := parseT_len s
  generalize parseT s = r at *
  rw [same_is r.1 (by omega) 60000 (by omega), Option.bind_some, if_pos rfl, if_pos rfl, if_pos rfl, awake_is 60000 (by decide)]
  rfl
theorem RulesParses : w8_RulesParses.Pure := by
  intro a0 hs
  refine ⟨60001, ?_⟩
  unfold w8_RulesParses.f
  by_cases h : (a0.size : Int) > 5000
  · rw [if_pos h]
    by_cases h2 : (a0.size : Int) ≤ 65536
    · rw [decide_eq_true h2, w8_RulesParses.j0, if_pos rfl, awake_is 60000 (by decide)]
      rfl
    · rw [decide_eq_false h2, w8_RulesParses.j0, if_neg (by decide)]
      unfold rules_Parse.f
      rw [if_pos (by omega), Option.bind_some, if_pos (by omega)]
      have hA := awake_is 60000 (by decide)
      simp only [List.length_nil, hA]
      rfl
  · rw [if_neg h]
    exact parses_in a0 (by omega)
end Go.Proofs.YtgjkjoocnkdckaaGreatDoor.Pure
