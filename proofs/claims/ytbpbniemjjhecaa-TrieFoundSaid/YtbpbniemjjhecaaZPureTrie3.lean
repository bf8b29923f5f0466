import Derived.Test.YtbpbniemjjhecaaZPureTrie2
namespace Go.Proofs.Ytbpbniemjjhecaa.PureC
open Go.RowKit Go.Proofs.Ytbpbniemjjhecaa.PChk Go.Proofs.Ytbpbniemjjhecaa.G Go.Proofs.Ytbpbniemjjhecaa.GT Go.Proofs.YtbpbniemjjhecaaW.PrintWords Go.Proofs.YtbpbniemjjhecaaW.PrintLast
set_option linter.unusedSimpArgs false
theorem fst_at (p : Rl → Bool) (l : List Rl) (h : One p l) (i : Nat) (x : Rl) (hx : l[i]? = some x) (hp : p x = true) : fstI p l 0 = some (i : Int) := by
  cases h2 : fstI p l 0 with
  | none =>
    have := fst_none p l 0 h2 x (List.mem_of_getElem? hx)
    rw [this] at hp
    cases hp
  | some r =>
    obtain ⟨j, y, h5, h6, rfl⟩ := fst_some p l 0 r h2
    rw [h i j x y hx h5 hp h6]
    simp
theorem found_left {l : List Rl} (h : Apart l) (i : Nat) (x : Rl) (hx : l[i]? = some x) : findO (some (some l)) x.f0 x.f1 = some (i : Int) := by
  rw [find_plain h]
  exact fst_at _ l (left_one h _) i x hx (by unfold leftP; exact decide_eq_true rfl)
theorem found_word {l : List Rl} (h : Apart l) (i : Nat) (x : Rl) (hx : l[i]? = some x) (h5 : x.f0 = 5) : wordO (some (some l)) x.f2 = some (i : Int) := by
  rw [word_plain h]
  exact fst_at _ l (word_one h _) i x hx (by unfold wordP; simp [h5])
theorem found_sign {l : List Rl} (h : Apart l) (i : Nat) (x : Rl) (hx : l[i]? = some x) (h8 : x.f0 = 8) : signO (some (some l)) x.f1 = x.f2 := by
  have hf := found_left h i x hx
  rw [h8] at hf
  unfold signO
  rw [hf, Option.bind_some, show (some (some l)).join = some l from rfl, Option.bind_some, show ((i : Int)).toNat = i from by omega, hx]
  rfl
end Go.Proofs.Ytbpbniemjjhecaa.PureC
