import Derived.Test.YtbpbniemjjhecaaZPureChkAwake
import Derived.Test.YtbpbniemjjhecaaZPureChkAlone2
namespace Go.Proofs.Ytbpbniemjjhecaa.PureC
open Go.RowKit Go.Proofs.Ytbpbniemjjhecaa.PChk Go.Proofs.Ytbpbniemjjhecaa.G Go.Proofs.YtbpbniemjjhecaaW.PrintWords Go.Proofs.YtbpbniemjjhecaaW.PrintLast
set_option linter.unusedSimpArgs false
theorem rd23 (l : List S33) (i : Nat) (h : i < l.length) : rd_T33 l (i : Int) = l[i] := by
  unfold rd_T33
  rw [show ((i : Int)).toNat = i from by omega, List.getD_eq_getElem?_getD, List.getElem?_eq_getElem h]
  rfl
def Short (x : S33) : Prop := x.f1.size ≤ 50 ∧ x.f2.size ≤ 50
theorem alone_kept (x : S33) (h : aloneB x = true) (hk : keptB x = true) : x.f2.size = 1 := by
  unfold aloneB mayB mostN at h
  rw [if_pos (Or.inl hk)] at h
  simp only [Bool.and_eq_true, decide_eq_true_eq] at h
  have := print_pos _ h.1.1.2
  omega
def tabB (pre : List S33) : List S33 → Option Int
  | [] => none
  | x :: l => if aloneB x = true then (if pre.any (clashB x) = true then some x.f4 else tabB (pre ++ [x]) l) else some x.f4
theorem alone_O (x : S33) (h : Short x) : aloneO x = some (aloneB x) := alone_check x 200 (by have := h.1; omega) (by have := h.2; omega) (by have := h.2; omega)
theorem clash_O (x y : S33) (hx : aloneB x = true) (hy : aloneB y = true) : clashO x y = some (clashB x y) := clash_check x y 200 (by omega) (alone_kept x hx) (alone_kept y hy)
theorem tab_check : ∀ (l pre : List S33), (∀ x ∈ l, Short x) → (∀ x ∈ pre, aloneB x = true) → tabGo pre l = some (tabB pre l)
  | [], pre, _, _ => rfl
  | x :: l, pre, hl, hp => by
    rw [tabGo, tabB, alone_O x (hl x List.mem_cons_self), Option.bind_some]
    by_cases ha : aloneB x = true
    · rw [if_pos ha, if_pos ha]
      have hall : pre.all (fun y => (clashO x y).isSome) = true := by
        rw [List.all_eq_true]
        intro y hy
        rw [clash_O x y ha (hp y hy)]
        rfl
      have hany : pre.any (fun y => (clashO x y).getD false) = pre.any (clashB x) := by
        rw [Bool.eq_iff_iff, List.any_eq_true, List.any_eq_true]
        constructor
        · rintro ⟨y, hy, h⟩
          rw [clash_O x y ha (hp y hy)] at h
          exact ⟨y, hy, h⟩
        · rintro ⟨y, hy, h⟩
          refine ⟨y, hy, ?_⟩
          rw [clash_O x y ha (hp y hy)]
          exact h
      rw [if_pos hall, hany]
      split
      · rfl
      · exact tab_check l (pre ++ [x]) (fun y hy => hl y (List.mem_cons_of_mem _ hy)) (fun y hy => by
          rcases List.mem_append.1 hy with h | h
          · exact hp y h
          · rw [List.mem_singleton.1 h]; exact ha)
    · rw [if_neg ha, if_neg ha]
def lastB (l : List S33) : Int × Int := if 400 < l.length then (0, 4) else if (missGo l wantedL).toList = [] then (0, 0) else (0, 6)
def tableB (l : List S33) : Int × Int := match tabB [] l with
  | some line => (line, 6)
  | none => lastB l
theorem table_check (l : List S33) (hl : l.length ≤ 100000) (hs : ∀ x ∈ l, Short x) : check_Table.f l = some (tableB l) := by
  unfold check_Table.f tableB lastB
  rw [if_pos (by omega), tab_check l [] hs (by intro x hx; cases hx), Option.bind_some]
  cases tabB [] l with
  | some line => rfl
  | none =>
    simp only [List.isEmpty_iff]
    split
    · rfl
    · split <;> rfl
end Go.Proofs.Ytbpbniemjjhecaa.PureC
