import Derived.Test.YtgjkjoocnkdckaaGreatDoorZPureRul5
import Derived.Test.YtgjkjoocnkdckaaGreatDoorZGRulUn
namespace Go.Proofs.YtgjkjoocnkdckaaGreatDoor.PureC
open Go.RowKit Go.Proofs.YtgjkjoocnkdckaaGreatDoor.PChk Go.Proofs.YtgjkjoocnkdckaaGreatDoor.G Go.Proofs.YtgjkjoocnkdckaaGreatDoorW.PrintWords Go.Proofs.YtgjkjoocnkdckaaGreatDoorW.PrintLast
set_option linter.unusedSimpArgs false
def sh (x : Rl) : Rl := ⟨x.f0, x.f1, x.f2, x.f3, x.f4 + 1⟩
def shR (r : List Rl × Int × Int) : List Rl × Int × Int := (r.1.map sh, if r.2.2 = 0 then r.2.1 else r.2.1 + 1, r.2.2)
theorem ruleM_sh (l : List ByteArray) (ln : Int) : ruleM l (ln + 1) = (ruleM l ln).map sh := by
  unfold ruleM
  split
  · rfl
  · rfl
theorem parseM_sh : ∀ (ps : List ByteArray) (acc : List Rl) (ln : Int), parseM ps (acc.map sh) (ln + 1) = shR (parseM ps acc ln)
  | [], acc, ln => rfl
  | p :: ps, acc, ln => by
    rw [parseM, parseM]
    by_cases hs : skipB p = true
    · rw [if_pos hs, if_pos hs]
      exact parseM_sh ps acc (ln + 1)
    · rw [if_neg hs, if_neg hs, ruleM_sh _ (ln + 1)]
      cases hr : ruleM (parts 32 p) (ln + 1) with
      | none => rfl
      | some x =>
        simp only [Option.map_some, List.length_map]
        by_cases h4 : acc.length = 400
        · rw [if_pos h4, if_pos h4]
          rfl
        · rw [if_neg h4, if_neg h4]
          have h := parseM_sh ps (acc ++ [x]) (ln + 1)
          rw [List.map_append] at h
          exact h
theorem parseM_form : ∀ (ps : List ByteArray) (acc : List Rl) (ln : Int), (parseM ps acc ln).2.2 = 0 ∧ (parseM ps acc ln).2.1 = 0 ∨ (parseM ps acc ln).2.2 ≠ 0 ∧ (parseM ps acc ln).1 = [] ∧ ln + 1 ≤ (parseM ps acc ln).2.1 ∧ (parseM ps acc ln).2.1 ≤ ln + ps.length
  | [], acc, ln => .inl ⟨rfl, rfl⟩
  | p :: ps, acc, ln => by
    have step : ∀ acc', (parseM ps acc' (ln + 1)).2.2 = 0 ∧ (parseM ps acc' (ln + 1)).2.1 = 0 ∨ (parseM ps acc' (ln + 1)).2.2 ≠ 0 ∧ (parseM ps acc' (ln + 1)).1 = [] ∧ ln + 1 ≤ (parseM ps acc' (ln + 1)).2.1 ∧ (parseM ps acc' (ln + 1)).2.1 ≤ ln + (p :: ps).length := fun acc' => by
      rcases parseM_form ps acc' (ln + 1) with h | ⟨h1, h2, h3, h4⟩
      · exact .inl h
      · exact .inr ⟨h1, h2, by omega, by simp only [List.length_cons]; omega⟩
    rw [parseM]
    split
    · exact step acc
    · split
      · split
        · exact .inr ⟨by show (4 : Int) ≠ 0; decide, rfl, Int.le_refl _, by simp only [List.length_cons]; omega⟩
        · exact step _
      · exact .inr ⟨by show (6 : Int) ≠ 0; decide, rfl, Int.le_refl _, by simp only [List.length_cons]; omega⟩
theorem parseM_lines : ∀ (ps : List ByteArray) (acc : List Rl) (ln : Int), ∀ x ∈ (parseM ps acc ln).1, x ∈ acc ∨ (ln + 1 ≤ x.f4 ∧ x.f4 ≤ ln + ps.length)
  | [], acc, ln, x, hx => .inl hx
  | p :: ps, acc, ln, x, hx => by
    rw [parseM] at hx
    split at hx
    · rcases parseM_lines ps acc (ln + 1) x hx with h | h
      · exact .inl h
      · exact .inr ⟨by omega, by simp only [List.length_cons]; omega⟩
    · split at hx
      · next y hy =>
        split at hx
        · cases hx
        · rcases parseM_lines ps (acc ++ [y]) (ln + 1) x hx with h | h
          · rcases List.mem_append.1 h with h | h
            · exact .inl h
            · rw [List.mem_singleton.1 h]
              have e : y.f4 = ln + 1 := by
                unfold ruleM at hy
                split at hy
                · rw [← Option.some.inj hy]
                · cases hy
              exact .inr ⟨by omega, by simp only [List.length_cons]; omega⟩
          · exact .inr ⟨by omega, by simp only [List.length_cons]; omega⟩
      · cases hx
theorem parseM_app : ∀ (ps qs : List ByteArray) (acc : List Rl) (ln : Int), (parseM ps acc ln).2.2 ≠ 0 → parseM (ps ++ qs) acc ln = parseM ps acc ln
  | [], qs, acc, ln, h => absurd rfl h
  | p :: ps, qs, acc, ln, h => by
    rw [parseM] at h
    rw [List.cons_append, parseM, parseM]
    by_cases hs : skipB p = true
    · rw [if_pos hs] at h
      rw [if_pos hs, if_pos hs]
      exact parseM_app ps qs acc (ln + 1) h
    · rw [if_neg hs] at h
      rw [if_neg hs, if_neg hs]
      cases hr : ruleM (parts 32 p) (ln + 1) with
      | none => rfl
      | some x =>
        rw [hr] at h
        simp only at h ⊢
        by_cases h4 : acc.length = 400
        · rw [if_pos h4, if_pos h4]
        · rw [if_neg h4] at h
          rw [if_neg h4, if_neg h4]
          exact parseM_app ps qs (acc ++ [x]) (ln + 1) h
theorem splitOn_nn (b : UInt8) : ∀ l : List UInt8, splitOn b l ≠ []
  | [] => by simp [splitOn]
  | c :: l => by
    rw [splitOn]
    split <;> simp
theorem splitOn_app (b : UInt8) (r : List UInt8) : ∀ l : List UInt8, splitOn b (l ++ b :: r) = splitOn b l ++ splitOn b r
  | [] => by
    show splitOn b (b :: r) = [[]] ++ splitOn b r
    rw [splitOn, if_pos (by simp)]
    rfl
  | c :: l => by
    have ih := splitOn_app b r l
    rw [List.cons_append, splitOn, splitOn, ih]
    by_cases hc : (c == b) = true
    · rw [if_pos hc, if_pos hc]
      rfl
    · rw [if_neg hc, if_neg hc]
      cases h : splitOn b l with
      | nil => exact absurd h (splitOn_nn b l)
      | cons y ys => rfl
theorem parts_app (b : UInt8) (x y : ByteArray) : parts b ((x ++ ⟨#[b]⟩) ++ y) = parts b x ++ parts b y := by
  unfold parts
  have e : ((x ++ ⟨#[b]⟩) ++ y).data.toList = x.data.toList ++ b :: y.data.toList := by
    simp only [ByteArray.data_append, Array.toList_append, List.append_assoc]
    rfl
  rw [e, splitOn_app, List.map_append]
theorem parts_one (b : UInt8) (x : ByteArray) (h : ∀ c ∈ x.data.toList, c ≠ b) : parts b x = [x] := by
  unfold parts
  rw [splitOn_no b _ h]
  rfl
theorem unl_sh : ∀ (l : List Rl) (i : Nat), unlGo (l.map sh) i = unlGo l i
  | [], i => rfl
  | x :: l, i => by rw [List.map_cons, unlGo, unlGo, unl_sh l (i + 1)]; rfl
theorem unl_len : ∀ (l : List Rl) (i : Nat), (unlGo l i).length = l.length
  | [], i => rfl
  | x :: l, i => by rw [unlGo, List.length_cons, List.length_cons, unl_len l (i + 1)]
theorem parseT_ahead (p t : ByteArray) (hp : ∀ c ∈ p.data.toList, c ≠ 10) (hs : skipB p = true) : parseT ((p ++ ⟨#[10]⟩) ++ t) = shR (parseT t) := by
  unfold parseT
  rw [parts_app, parts_one 10 p hp]
  show parseM (p :: parts 10 t) [] 0 = _
  rw [parseM, if_pos hs]
  exact parseM_sh (parts 10 t) [] 0
end Go.Proofs.YtgjkjoocnkdckaaGreatDoor.PureC
