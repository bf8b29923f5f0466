import Derived.Test.YtbpbniemjjhecaaZPureTrie2
namespace Go.Proofs.Ytbpbniemjjhecaa.PureC
open Go.RowKit Go.Proofs.Ytbpbniemjjhecaa.PChk Go.Proofs.Ytbpbniemjjhecaa.G Go.Proofs.Ytbpbniemjjhecaa.GT Go.Proofs.YtbpbniemjjhecaaW.PrintWords Go.Proofs.YtbpbniemjjhecaaW.PrintLast
set_option linter.unusedSimpArgs false
theorem fst_at (p : Rl → Bool) (l : List Rl) (h : One p l) (i : Nat) (x : Rl) (hx : l[i]? = some x) (hp : p x = true) : fstI p l 0 = some (i : Int) := by
  cases h2 : fstI p l 0 with
  | none =>
    have := fst_none p l 0 h2 x (List.mem_of_getElem? hx)
    rw [this] at hp
    cases hp
  | some r =>
    obtain ⟨j, y, h5, h6, rfl⟩ := fst_some p l 0 r h2
    rw [h i j x y hx h5 hp h6]
    simp
end Go.Proofs.Ytbpbniemjjhecaa.PureC
