import Derived.Test.YtbpbniemjjhecaaZPureChkTable
import Derived.Test.YtbpbniemjjhecaaZPChk18
import Derived.Test.YtbpbniemjjhecaaZPChk16
namespace Go.Proofs.Ytbpbniemjjhecaa.PureC
open Go.RowKit Go.Proofs.Ytbpbniemjjhecaa.PChk Go.Proofs.Ytbpbniemjjhecaa.G Go.Proofs.YtbpbniemjjhecaaW.PrintWords Go.Proofs.YtbpbniemjjhecaaW.PrintLast
set_option linter.unusedSimpArgs false
theorem beq_swap (a b : List UInt8) : (a == b) = (b == a) := by
 rw [Bool.eq_iff_iff, beq_iff_eq, beq_iff_eq]
 exact eq_comm
theorem row_swap (x y : S33) (r : Int) : rowB x y r = rowB y x r := by
 unfold rowB
 cases inB x.f0 r <;> cases inB y.f0 r <;> cases beg x.f2 y.f2 <;> cases beg y.f2 x.f2 <;> rfl
theorem clash_swap (x y : S33) : clashB x y = clashB y x := by
 have h1 : (x.f0 == y.f0 && (x.f1.toList == y.f1.toList || x.f0 == 5 && x.f2.toList == y.f2.toList)) = (y.f0 == x.f0 && (y.f1.toList == x.f1.toList || y.f0 == 5 && y.f2.toList == x.f2.toList)) := by
  rw [beq_swap x.f1.toList, beq_swap x.f2.toList]
  by_cases h : x.f0 = y.f0
  ·
   rw [h]
  ·
   rw [beq_eq_false_iff_ne.2 h, beq_eq_false_iff_ne.2 (Ne.symm h), Bool.false_and, Bool.false_and]
 unfold clashB
 rw [h1, row_swap x y 1, row_swap x y 2, row_swap x y 3, Bool.or_assoc, Bool.or_comm (spoilsB x y), ← Bool.or_assoc]
def Apart (l : List S33) : Prop := (∀ x ∈ l, aloneB x = true) ∧ l.Pairwise fun a b => clashB a b = false
theorem tab_none : ∀ (l pre : List S33), tabB pre l = none ↔ Apart l ∧ ∀ x ∈ l, ∀ y ∈ pre, clashB x y = false
 | [], pre => by
  refine ⟨fun _ => ⟨⟨(by intro x hx; cases hx), List.Pairwise.nil⟩, by intro x hx; cases hx⟩, fun _ => rfl⟩
 | x :: l, pre => by
  rw [tabB]
  by_cases ha : aloneB x = true
  ·
   rw [if_pos ha]
   by_cases hc : pre.any (clashB x) = true
   ·
    rw [if_pos hc]
    obtain ⟨y, hy, hxy⟩ := List.any_eq_true.1 hc
    constructor
    ·
     intro h; cases h
    ·
     rintro ⟨_, h⟩
     rw [h x List.mem_cons_self y hy] at hxy
     cases hxy
   ·
    rw [if_neg hc, tab_none l (pre ++ [x])]
    have hp : ∀ y ∈ pre, clashB x y = false := fun y hy => Bool.eq_false_iff.2 fun h => hc (List.any_eq_true.2 ⟨y, hy, h⟩)
    constructor
    ·
     rintro ⟨⟨a1, a2⟩, a3⟩
     refine ⟨⟨fun y hy => ?_, List.pairwise_cons.2 ⟨fun y hy => ?_, a2⟩⟩, fun y hy z hz => ?_⟩
     ·
      rcases List.mem_cons.1 hy with rfl | h
      ·
       exact ha
      ·
       exact a1 y h
     ·
      rw [clash_swap]
      exact a3 y hy x (List.mem_append_right _ (List.mem_singleton.2 rfl))
     ·
      rcases List.mem_cons.1 hy with rfl | h
      ·
       exact hp z hz
      ·
       exact a3 y h z (List.mem_append_left _ hz)
    ·
     rintro ⟨⟨a1, a2⟩, a3⟩
     obtain ⟨b1, b2⟩ := List.pairwise_cons.1 a2
     refine ⟨⟨fun y hy => a1 y (List.mem_cons_of_mem _ hy), b2⟩, fun y hy z hz => ?_⟩
     rcases List.mem_append.1 hz with h | h
     ·
      exact a3 y (List.mem_cons_of_mem _ hy) z h
     ·
      rw [List.mem_singleton.1 h, clash_swap]
      exact b1 y hy
  ·
   rw [if_neg ha]
   constructor
   ·
    intro h; cases h
   ·
    rintro ⟨⟨a1, _⟩, _⟩
    exact absurd (a1 x List.mem_cons_self) ha
theorem tab_apart (l : List S33) : tabB [] l = none ↔ Apart l := by
 rw [tab_none]
 exact ⟨fun h => h.1, fun h => ⟨h, by intro x _ y hy; cases hy⟩⟩
theorem wanted_some : wantedL.all (fun w => !w.f1.toList.isEmpty && (decide (w.f0 ≥ 6) || w.f0 == 1 && w.f1.size == 1)) = true := by decide +kernel
theorem miss_none (l : List S33) : ∀ ws : List S33, (∀ w ∈ ws, w.f1.toList ≠ []) → ((missGo l ws).toList = [] ↔ ∀ w ∈ ws, l.any (isOf w.f0 w.f1) = true)
 | [], _ => by
  refine ⟨fun _ => (by intro w hw; cases hw), fun _ => ?_⟩
  rw [missGo, ByteArray.toList_eq]
 | w :: ws, h => by
  rw [missGo]
  by_cases hw : l.any (isOf w.f0 w.f1) = true
  ·
   rw [if_pos hw, miss_none l ws (fun v hv => h v (List.mem_cons_of_mem _ hv))]
   refine ⟨fun g v hv => ?_, fun g v hv => g v (List.mem_cons_of_mem _ hv)⟩
   rcases List.mem_cons.1 hv with rfl | hv
   ·
    exact hw
   ·
    exact g v hv
  ·
   rw [if_neg hw]
   exact ⟨fun g => absurd g (h w List.mem_cons_self), fun g => absurd (g w List.mem_cons_self) hw⟩
theorem wanted_ne (w : S33) (hw : w ∈ wantedL) : w.f1.toList ≠ [] ∧ (w.f0 ≥ 6 ∨ (w.f0 = 1 ∧ w.f1.size = 1)) := by
 have h := List.all_eq_true.1 wanted_some w hw
 simp only [Bool.and_eq_true, Bool.or_eq_true, decide_eq_true_eq, beq_iff_eq, Bool.not_eq_true', List.isEmpty_eq_false_iff] at h
 exact h
def Whole (l : List S33) : Prop := ∀ w ∈ wantedL, l.any (isOf w.f0 w.f1) = true
theorem whole_iff (l : List S33) : (missGo l wantedL).toList = [] ↔ Whole l := miss_none l wantedL fun w hw => (wanted_ne w hw).1
theorem table_ok (l : List S33) (hl : l.length ≤ 100000) (hs : ∀ x ∈ l, Short x) (a b : Int) (h : check_Table.f l = some (a, b)) : b = 0 ↔ Apart l ∧ l.length ≤ 400 ∧ Whole l := by
 rw [table_check l hl hs] at h
 have h' : tableB l = (a, b) := Option.some.inj h
 unfold tableB lastB at h'
 rw [← tab_apart, ← whole_iff]
 cases ht : tabB [] l with
 | some line =>
  rw [ht] at h'
  simp only [Prod.mk.injEq] at h'
  refine ⟨fun h0 => by omega, fun g => by cases g.1⟩
 | none =>
  rw [ht] at h'
  by_cases h4 : 400 < l.length
  ·
   simp only [if_pos h4, Prod.mk.injEq] at h'
   exact ⟨fun h0 => by omega, fun g => by omega⟩
  ·
   simp only [if_neg h4] at h'
   by_cases hm : (missGo l wantedL).toList = []
   ·
    rw [if_pos hm] at h'
    simp only [Prod.mk.injEq] at h'
    exact ⟨fun _ => ⟨rfl, by omega, hm⟩, fun _ => by omega⟩
   ·
    rw [if_neg hm] at h'
    simp only [Prod.mk.injEq] at h'
    exact ⟨fun h0 => by omega, fun g => absurd g.2.2 hm⟩
def longB (x : S33) : Bool := decide (50 < x.f1.size ∨ 50 < x.f2.size)
theorem long_go (l : List S33) (hl : l.length ≤ 450) : ∀ (n k i : Nat), i + n = l.length → n + 1 ≤ k → w10_long.l0 k l (i : Int) = some ((l.drop i).any longB)
 | 0, k, i, hi, hk => by
  obtain ⟨k, rfl⟩ : ∃ m, k = m + 1 := ⟨k - 1, by omega⟩
  rw [w10_long.l0, if_neg (by omega), List.drop_of_length_le (by omega)]
  rfl
 | n + 1, k, i, hi, hk => by
  obtain ⟨k, rfl⟩ : ∃ m, k = m + 1 := ⟨k - 1, by omega⟩
  have hlt : i < l.length := by omega
  have hd : l.drop i = l[i] :: l.drop (i + 1) := List.drop_eq_getElem_cons hlt
  rw [w10_long.l0, if_pos (by omega), if_pos (by omega), rd23 l i hlt, hd, List.any_cons, wrap_of (by omega) (by omega), show ((i : Int) + 1) = ((i + 1 : Nat) : Int) from by omega, long_go l hl n k (i + 1) (by omega) (by omega)]
  unfold longB
  by_cases h1 : (l[i].f1.size : Int) > 50
  ·
   rw [if_pos h1, decide_eq_true (Or.inl (by omega)), Bool.true_or]
  ·
   rw [if_neg h1]
   by_cases h2 : (l[i].f2.size : Int) > 50
   ·
    rw [if_pos h2, decide_eq_true (Or.inr (by omega)), Bool.true_or]
   ·
    rw [if_neg h2, decide_eq_false (by omega), Bool.false_or]
theorem long_is (l : List S33) (k : Nat) (hk : 500 ≤ k) : w10_long.f k l = some true ∨ (w10_long.f k l = some false ∧ l.length ≤ 450 ∧ ∀ x ∈ l, Short x) := by
 unfold w10_long.f
 by_cases h : (l.length : Int) > 450
 ·
  exact Or.inl (if_pos h)
 ·
  rw [if_neg h]
  have hg := long_go l (by omega) l.length k 0 (by omega) (by omega)
  rw [show ((0 : Nat) : Int) = 0 from rfl, List.drop_zero] at hg
  cases ha : l.any longB with
  | true => exact Or.inl (by rw [hg, ha])
  | false =>
   refine Or.inr ⟨by rw [hg, ha], by omega, fun x hx => ?_⟩
   have h1 : longB x = false := Bool.eq_false_iff.2 fun h => by
    have h2 : l.any longB = true := List.any_eq_true.2 ⟨x, hx, h⟩
    rw [ha] at h2
    cases h2
   unfold longB at h1
   rw [decide_eq_false_iff_not] at h1
   exact ⟨by omega, by omega⟩
theorem same_go (l : List S33) (hl : l.length ≤ 100000) : ∀ (n k i : Nat), i + n = l.length → n + 1 ≤ k → r8_Same.l0 k l l (i : Int) = some true
 | 0, k, i, hi, hk => by
  obtain ⟨k, rfl⟩ : ∃ m, k = m + 1 := ⟨k - 1, by omega⟩
  rw [r8_Same.l0, if_neg (by omega)]
 | n + 1, k, i, hi, hk => by
  obtain ⟨k, rfl⟩ : ∃ m, k = m + 1 := ⟨k - 1, by omega⟩
  rw [r8_Same.l0, if_pos (by omega), if_pos (by omega), if_pos (by omega), if_neg (by simp), wrap_of (by omega) (by omega), show ((i : Int) + 1) = ((i + 1 : Nat) : Int) from by omega, same_go l hl n k (i + 1) (by omega) (by omega)]
theorem same_is (l : List S33) (hl : l.length ≤ 100000) (k : Nat) (hk : l.length + 1 ≤ k) : r8_Same.f k l l = some true := by
 unfold r8_Same.f
 rw [if_pos rfl]
 exact same_go l hl l.length k 0 (by omega) hk
end Go.Proofs.Ytbpbniemjjhecaa.PureC
