import Derived.Test.YtbpbniemjjhecaaGreatZPureChkAwake
import Derived.Test.YtbpbniemjjhecaaGreatZPureChkAlone2
section
namespace Go.Proofs.YtbpbniemjjhecaaGreat.PureC
open Go.RowKit Go.Proofs.YtbpbniemjjhecaaGreat.PChk Go.Proofs.YtbpbniemjjhecaaGreat.G Go.Proofs.YtbpbniemjjhecaaGreatW.PrintWords Go.Proofs.YtbpbniemjjhecaaGreatW.PrintLast
set_option linter.unusedSimpArgs false
theorem rd23 (l : List S50) (i : Nat) (h : i < l.length) : rd_T50 l (i : Int) = l[i] := by
 unfold rd_T50
 rw [show ((i : Int)).toNat = i from by omega, List.getD_eq_getElem?_getD, List.getElem?_eq_getElem h]
 rfl
def Short (x : S50) : Prop := x.f1.size ≤ 50 ∧ x.f2.size ≤ 50
theorem alone_kept (x : S50) (h : aloneB x = true) (hk : keptB x = true) : x.f2.size = 1 := by
 unfold aloneB mayB mostN at h
 rw [if_pos (Or.inl hk)] at h
 simp only [Bool.and_eq_true, decide_eq_true_eq] at h
 have := print_pos _ h.1.1.2
 omega
def tabB (pre : List S50) : List S50 → Option Int
 | [] => none
 | x :: l => if aloneB x = true then (if pre.any (clashB x) = true then some x.f4 else tabB (pre ++ [x]) l) else some x.f4
theorem alone_O (x : S50) (h : Short x) : aloneO x = some (aloneB x) := alone_check x 200 (by have := h.1; omega) (by have := h.2; omega) (by have := h.2; omega)
theorem clash_O (x y : S50) (hx : aloneB x = true) (hy : aloneB y = true) : clashO x y = some (clashB x y) := clash_check x y 200 (by omega) (alone_kept x hx) (alone_kept y hy)
theorem tab_check : ∀ (l pre : List S50), (∀ x ∈ l, Short x) → (∀ x ∈ pre, aloneB x = true) → tabGo pre l = some (tabB pre l)
 | [], pre, _, _ => rfl
 | x :: l, pre, hl, hp => by
  rw [tabGo, tabB, alone_O x (hl x List.mem_cons_self), Option.bind_some]
  by_cases ha : aloneB x = true
  ·
   rw [if_pos ha, if_pos ha]
   have hall : pre.all (fun y => (clashO x y).isSome) = true := by
    rw [List.all_eq_true]
    intro y hy
    rw [clash_O x y ha (hp y hy)]
    rfl
   have hany : pre.any (fun y => (clashO x y).getD false) = pre.any (clashB x) := by
    rw [Bool.eq_iff_iff, List.any_eq_true, List.any_eq_true]
    constructor
    ·
     rintro ⟨y, hy, h⟩
     rw [clash_O x y ha (hp y hy)] at h
     exact ⟨y, hy, h⟩
    ·
     rintro ⟨y, hy, h⟩
     refine ⟨y, hy, ?_⟩
     rw [clash_O x y ha (hp y hy)]
     exact h
   rw [if_pos hall, hany]
   split
   ·
    rfl
   ·
    exact tab_check l (pre ++ [x]) (fun y hy => hl y (List.mem_cons_of_mem _ hy)) (fun y hy => by
     rcases List.mem_append.1 hy with h | h
     ·
      exact hp y h
     ·
      rw [List.mem_singleton.1 h]; exact ha)
  ·
   rw [if_neg ha, if_neg ha]
def lastB (l : List S50) : Int × Int := if 400 < l.length then (0, 4) else if (missGo l wantedL).toList = [] then (0, 0) else (0, 6)
def tableB (l : List S50) : Int × Int := match tabB [] l with
 | some line => (line, 6)
 | none => lastB l
theorem table_check (l : List S50) (hl : l.length ≤ 100000) (hs : ∀ x ∈ l, Short x) : check_Table.f l = some (tableB l) := by
 unfold check_Table.f tableB lastB
 rw [if_pos (by omega), tab_check l [] hs (by intro x hx; cases hx), Option.bind_some]
 cases tabB [] l with
 | some line => rfl
 | none =>
  simp only [List.isEmpty_iff]
  split
  ·
   rfl
  ·
   split <;> rfl
end Go.Proofs.YtbpbniemjjhecaaGreat.PureC
end
section
namespace Go.Proofs.YtbpbniemjjhecaaGreat.PureC
open Go.RowKit Go.Proofs.YtbpbniemjjhecaaGreat.PChk Go.Proofs.YtbpbniemjjhecaaGreat.G Go.Proofs.YtbpbniemjjhecaaGreatW.PrintWords Go.Proofs.YtbpbniemjjhecaaGreatW.PrintLast
set_option linter.unusedSimpArgs false
theorem beq_swap (a b : List UInt8) : (a == b) = (b == a) := by
 rw [Bool.eq_iff_iff, beq_iff_eq, beq_iff_eq]
 exact eq_comm
theorem row_swap (x y : S50) (r : Int) : rowB x y r = rowB y x r := by
 unfold rowB
 cases inB x.f0 r <;> cases inB y.f0 r <;> cases beg x.f2 y.f2 <;> cases beg y.f2 x.f2 <;> rfl
theorem clash_swap (x y : S50) : clashB x y = clashB y x := by
 have h1 : (x.f0 == y.f0 && (x.f1.toList == y.f1.toList || x.f0 == 5 && x.f2.toList == y.f2.toList)) = (y.f0 == x.f0 && (y.f1.toList == x.f1.toList || y.f0 == 5 && y.f2.toList == x.f2.toList)) := by
  rw [beq_swap x.f1.toList, beq_swap x.f2.toList]
  by_cases h : x.f0 = y.f0
  ·
   rw [h]
  ·
   rw [beq_eq_false_iff_ne.2 h, beq_eq_false_iff_ne.2 (Ne.symm h), Bool.false_and, Bool.false_and]
 unfold clashB
 rw [h1, row_swap x y 1, row_swap x y 2, row_swap x y 3, Bool.or_assoc, Bool.or_comm (spoilsB x y), ← Bool.or_assoc]
def Apart (l : List S50) : Prop := (∀ x ∈ l, aloneB x = true) ∧ l.Pairwise fun a b => clashB a b = false
theorem tab_none : ∀ (l pre : List S50), tabB pre l = none ↔ Apart l ∧ ∀ x ∈ l, ∀ y ∈ pre, clashB x y = false
 | [], pre => by
  refine ⟨fun _ => ⟨⟨(by intro x hx; cases hx), List.Pairwise.nil⟩, by intro x hx; cases hx⟩, fun _ => rfl⟩
 | x :: l, pre => by
  rw [tabB]
  by_cases ha : aloneB x = true
  ·
   rw [if_pos ha]
   by_cases hc : pre.any (clashB x) = true
   ·
    rw [if_pos hc]
    obtain ⟨y, hy, hxy⟩ := List.any_eq_true.1 hc
    constructor
    ·
     intro h; cases h
    ·
     rintro ⟨_, h⟩
     rw [h x List.mem_cons_self y hy] at hxy
     cases hxy
   ·
    rw [if_neg hc, tab_none l (pre ++ [x])]
    have hp : ∀ y ∈ pre, clashB x y = false := fun y hy => Bool.eq_false_iff.2 fun h => hc (List.any_eq_true.2 ⟨y, hy, h⟩)
    constructor
    ·
     rintro ⟨⟨a1, a2⟩, a3⟩
     refine ⟨⟨fun y hy => ?_, List.pairwise_cons.2 ⟨fun y hy => ?_, a2⟩⟩, fun y hy z hz => ?_⟩
     ·
      rcases List.mem_cons.1 hy with rfl | h
      ·
       exact ha
      ·
       exact a1 y h
     ·
      rw [clash_swap]
      exact a3 y hy x (List.mem_append_right _ (List.mem_singleton.2 rfl))
     ·
      rcases List.mem_cons.1 hy with rfl | h
      ·
       exact hp z hz
      ·
       exact a3 y h z (List.mem_append_left _ hz)
    ·
     rintro ⟨⟨a1, a2⟩, a3⟩
     obtain ⟨b1, b2⟩ := List.pairwise_cons.1 a2
     refine ⟨⟨fun y hy => a1 y (List.mem_cons_of_mem _ hy), b2⟩, fun y hy z hz => ?_⟩
     rcases List.mem_append.1 hz with h | h
     ·
      exact a3 y (List.mem_cons_of_mem _ hy) z h
     ·
      rw [List.mem_singleton.1 h, clash_swap]
      exact b1 y hy
  ·
   rw [if_neg ha]
   constructor
   ·
    intro h; cases h
   ·
    rintro ⟨⟨a1, _⟩, _⟩
    exact absurd (a1 x List.mem_cons_self) ha
theorem tab_apart (l : List S50) : tabB [] l = none ↔ Apart l := by
 rw [tab_none]
 exact ⟨fun h => h.1, fun h => ⟨h, by intro x _ y hy; cases hy⟩⟩
theorem wanted_some : wantedL.all (fun w => !w.f1.toList.isEmpty && (decide (w.f0 ≥ 6) || w.f0 == 1 && w.f1.size == 1)) = true := by decide +kernel
theorem miss_none (l : List S50) : ∀ ws : List S50, (∀ w ∈ ws, w.f1.toList ≠ []) → ((missGo l ws).toList = [] ↔ ∀ w ∈ ws, l.any (isOf w.f0 w.f1) = true)
 | [], _ => by
  refine ⟨fun _ => (by intro w hw; cases hw), fun _ => ?_⟩
  rw [missGo, ByteArray.toList_eq]
 | w :: ws, h => by
  rw [missGo]
  by_cases hw : l.any (isOf w.f0 w.f1) = true
  ·
   rw [if_pos hw, miss_none l ws (fun v hv => h v (List.mem_cons_of_mem _ hv))]
   refine ⟨fun g v hv => ?_, fun g v hv => g v (List.mem_cons_of_mem _ hv)⟩
   rcases List.mem_cons.1 hv with rfl | hv
   ·
    exact hw
   ·
    exact g v hv
  ·
   rw [if_neg hw]
   exact ⟨fun g => absurd g (h w List.mem_cons_self), fun g => absurd (g w List.mem_cons_self) hw⟩
theorem wanted_ne (w : S50) (hw : w ∈ wantedL) : w.f1.toList ≠ [] ∧ (w.f0 ≥ 6 ∨ (w.f0 = 1 ∧ w.f1.size = 1)) := by
 have h := List.all_eq_true.1 wanted_some w hw
 simp only [Bool.and_eq_true, Bool.or_eq_true, decide_eq_true_eq, beq_iff_eq, Bool.not_eq_true', List.isEmpty_eq_false_iff] at h
 exact h
def Whole (l : List S50) : Prop := ∀ w ∈ wantedL, l.any (isOf w.f0 w.f1) = true
theorem whole_iff (l : List S50) : (missGo l wantedL).toList = [] ↔ Whole l := miss_none l wantedL fun w hw => (wanted_ne w hw).1
theorem table_ok (l : List S50) (hl : l.length ≤ 100000) (hs : ∀ x ∈ l, Short x) (a b : Int) (h : check_Table.f l = some (a, b)) : b = 0 ↔ Apart l ∧ l.length ≤ 400 ∧ Whole l := by
 rw [table_check l hl hs] at h
 have h' : tableB l = (a, b) := Option.some.inj h
 unfold tableB lastB at h'
 rw [← tab_apart, ← whole_iff]
 cases ht : tabB [] l with
 | some line =>
  rw [ht] at h'
  simp only [Prod.mk.injEq] at h'
  refine ⟨fun h0 => by omega, fun g => by cases g.1⟩
 | none =>
  rw [ht] at h'
  by_cases h4 : 400 < l.length
  ·
   simp only [if_pos h4, Prod.mk.injEq] at h'
   exact ⟨fun h0 => by omega, fun g => by omega⟩
  ·
   simp only [if_neg h4] at h'
   by_cases hm : (missGo l wantedL).toList = []
   ·
    rw [if_pos hm] at h'
    simp only [Prod.mk.injEq] at h'
    exact ⟨fun _ => ⟨rfl, by omega, hm⟩, fun _ => by omega⟩
   ·
    rw [if_neg hm] at h'
    simp only [Prod.mk.injEq] at h'
    exact ⟨fun h0 => by omega, fun g => absurd g.2.2 hm⟩
end Go.Proofs.YtbpbniemjjhecaaGreat.PureC
end
