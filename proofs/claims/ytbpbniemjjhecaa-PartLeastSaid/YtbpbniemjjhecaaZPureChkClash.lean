import Derived.Test.YtbpbniemjjhecaaZPChk10
import Derived.Test.YtbpbniemjjhecaaZPureChkBase
namespace Go.Proofs.Ytbpbniemjjhecaa.PureC
set_option linter.unusedSimpArgs false
open Go.RowKit Go.Proofs.Ytbpbniemjjhecaa.PChk Go.Proofs.Ytbpbniemjjhecaa.G Go.Proofs.YtbpbniemjjhecaaW.PrintWords Go.Proofs.YtbpbniemjjhecaaW.PrintLast
def inB (what row : Int) : Bool := if row = 1 then what == 1 || what == 2 || what == 6 || what == 8 else if row = 2 then what == 1 || what == 3 || what == 4 || what == 6 || what == 8 else if row = 3 then what == 7 || what == 6 || what == 8 else false
theorem has_16 : ∀ w : Fin 16, check_mask_has.f 326 (w.val : Int) = some (inB (w.val : Int) 1) ∧ check_mask_has.f 346 (w.val : Int) = some (inB (w.val : Int) 2) ∧ check_mask_has.f 448 (w.val : Int) = some (inB (w.val : Int) 3) ∧ check_mask_has.f 0 (w.val : Int) = some false := by decide +kernel
theorem rows_are : check_row.f 8 1 = some 326 ∧ check_row.f 8 2 = some 346 ∧ check_row.f 8 3 = some 448 := by decide +kernel
theorem in_out (what row : Int) (h : what < 0 ∨ 16 ≤ what) : inB what row = false := by
 unfold inB
 have e : ∀ n : Int, 0 ≤ n → n < 16 → (what == n) = false := fun n h0 h1 => by
  rw [beq_eq_false_iff_ne]; omega
 simp [e]
theorem has_out (m what : Int) (h : what < 0 ∨ 16 ≤ what) : check_mask_has.f m what = some false := by
 unfold check_mask_has.f
 by_cases h0 : what ≥ 0
 ·
  rw [if_pos h0, if_neg (by omega)]
 ·
  rw [if_neg h0]
theorem in_check (k : Nat) (hk : 8 ≤ k) (a : Int) (b c : ByteArray) (d e row : Int) : check_In.f k a b c d e row = some (inB a row) := by
 obtain ⟨r1, r2, r3⟩ := rows_are
 have hm : ∀ {i r : Int}, check_row.f 8 i = some r → check_row.f k i = some r := fun {i r} h => at_rounds (g := fun k => check_row.f k i) (fun k => check_row.mono _ k) hk h
 unfold check_In.f
 by_cases h1 : row = 1
 ·
  subst h1
  rw [hm r1, Option.bind_some]
  by_cases ho : a < 0 ∨ 16 ≤ a
  ·
   rw [has_out _ _ ho, in_out _ _ ho]; rfl
  ·
   have h := (has_16 ⟨a.toNat, by omega⟩).1
   simp only [show ((a.toNat : Nat) : Int) = a from by omega] at h
   rw [h]; rfl
 ·
  by_cases h2 : row = 2
  ·
   subst h2
   rw [hm r2, Option.bind_some]
   by_cases ho : a < 0 ∨ 16 ≤ a
   ·
    rw [has_out _ _ ho, in_out _ _ ho]; rfl
   ·
    have h := (has_16 ⟨a.toNat, by omega⟩).2.1
    simp only [show ((a.toNat : Nat) : Int) = a from by omega] at h
    rw [h]; rfl
  ·
   by_cases h3 : row = 3
   ·
    subst h3
    rw [hm r3, Option.bind_some]
    by_cases ho : a < 0 ∨ 16 ≤ a
    ·
     rw [has_out _ _ ho, in_out _ _ ho]; rfl
    ·
     have h := (has_16 ⟨a.toNat, by omega⟩).2.2.1
     simp only [show ((a.toNat : Nat) : Int) = a from by omega] at h
     rw [h]; rfl
   ·
    have e1 : check_row.f k row = some 0 := by unfold check_row.f; rw [if_neg h1, if_neg h2, if_neg h3]
    have e2 : inB a row = false := by unfold inB; rw [if_neg h1, if_neg h2, if_neg h3]
    rw [e1, e2, Option.bind_some]
    by_cases ho : a < 0 ∨ 16 ≤ a
    ·
     rw [has_out _ _ ho]; rfl
    ·
     have h := (has_16 ⟨a.toNat, by omega⟩).2.2.2
     simp only [show ((a.toNat : Nat) : Int) = a from by omega] at h
     rw [h]; rfl
def beg (a b : ByteArray) : Bool := a.toList.isPrefixOf b.toList
theorem beg_check (a b : ByteArray) : strings_HasPrefix.f b a = some (beg a b) := by
 unfold strings_HasPrefix.f beg
 rw [ByteArray.toList_eq, ByteArray.toList_eq]
 rfl
def inL (a : List UInt8) : List UInt8 → Bool
 | [] => a.isPrefixOf []
 | c :: l => a.isPrefixOf (c :: l) || inL a l
theorem index_in (c : UInt8) : ∀ l : List UInt8, decide (0 ≤ Lib.indexByte l c) = inL [c] l
 | [] => rfl
 | x :: l => by
  have ih := index_in c l
  have hge := Lib.indexByte_ge l c
  unfold Lib.indexByte inL
  rw [← ih]
  by_cases h : x = c
  ·
   subst h
   simp [List.isPrefixOf]
  ·
   have h1 : (x == c) = false := beq_eq_false_iff_ne.2 h
   have h2 : (c == x) = false := beq_eq_false_iff_ne.2 (Ne.symm h)
   rw [h1]
   simp only [List.isPrefixOf, h2, Bool.false_and, Bool.false_or, Bool.false_eq_true, if_false]
   by_cases h3 : Lib.indexByte l c = -1
   ·
    rw [h3]; rfl
   ·
    rw [beq_eq_false_iff_ne.2 h3]
    simp only [Bool.false_eq_true, if_false, decide_eq_decide]
    omega
theorem contains_check (a b : ByteArray) (h : a.size = 1) : strings_Contains.f b a = some (inL a.toList b.toList) := by
 obtain ⟨c, hc⟩ : ∃ c, a.data.toList = [c] := List.length_eq_one_iff.1 (by rw [Array.length_toList]; exact h)
 unfold strings_Contains.f
 rw [hc]
 simp only
 rw [index_in, ByteArray.toList_eq, ByteArray.toList_eq, hc]
def keptB (x : S33) : Bool := x.f0 == 8 && (x.f1.toList == [98, 108, 107] || x.f1.toList == [99, 111, 110, 116] || x.f1.toList == [105, 110, 100])
theorem kept_check (x : S33) : check_kept.f x.f0 x.f1 x.f2 x.f3 x.f4 = some (keptB x) := by
 unfold check_kept.f keptB
 by_cases h0 : x.f0 = 8 <;> by_cases h1 : x.f1.toList = [98, 108, 107] <;> by_cases h2 : x.f1.toList = [99, 111, 110, 116] <;> simp [h0, h1, h2]
def spoilsB (x y : S33) : Bool := keptB x && inL x.f2.toList y.f2.toList || (x.f0 == 8 && y.f0 == 5 && beg x.f2 y.f2)
def rowB (x y : S33) (row : Int) : Bool := inB x.f0 row && inB y.f0 row && (beg x.f2 y.f2 || beg y.f2 x.f2)
def clashB (x y : S33) : Bool := (x.f0 == y.f0 && (x.f1.toList == y.f1.toList || x.f0 == 5 && x.f2.toList == y.f2.toList)) || rowB x y 1 || rowB x y 2 || rowB x y 3 || spoilsB x y || spoilsB y x
theorem spoils_check (x y : S33) (k : Nat) (hk : 1 ≤ k) (hx : keptB x = true → x.f2.size = 1) : check_spoils.f k x.f0 x.f1 x.f2 x.f3 x.f4 y.f0 y.f1 y.f2 y.f3 y.f4 = some (spoilsB x y) := by
 obtain ⟨k, rfl⟩ : ∃ m, k = m + 1 := ⟨k - 1, by omega⟩
 unfold check_spoils.f spoilsB
 have hj : ∀ b, check_spoils.j0 (k + 1) b x.f0 x.f1 x.f2 x.f3 x.f4 y.f0 y.f1 y.f2 y.f3 y.f4 = some (b || (x.f0 == 8 && y.f0 == 5 && beg x.f2 y.f2)) := by
  intro b
  rw [check_spoils.j0, beg_check]
  by_cases h0 : x.f0 = 8 <;> by_cases h1 : y.f0 = 5 <;> cases b <;> simp [h0, h1]
 rw [kept_check, Option.bind_some]
 by_cases h : keptB x = true
 ·
  rw [if_pos h, contains_check _ _ (hx h), Option.bind_some, hj, h, Bool.true_and]
 ·
  rw [if_neg h, hj, Bool.eq_false_iff.2 h, Bool.false_and]
theorem begins_check (a b : ByteArray) : check_begins.f a b = some (beg a b || beg b a) := by
 unfold check_begins.f
 rw [beg_check, beg_check]
 cases h1 : beg b a <;> cases h2 : beg a b <;> rfl
theorem clash_row (x y : S33) (k : Nat) (hk : 8 ≤ k) (row : Int) (h1 : 1 ≤ row) (h3 : row ≤ 3) : check_Clash.l0 (k + 1) row x.f0 x.f1 x.f2 x.f3 x.f4 y.f0 y.f1 y.f2 y.f3 y.f4 = if rowB x y row = true then some true else check_Clash.l0 k (row + 1) x.f0 x.f1 x.f2 x.f3 x.f4 y.f0 y.f1 y.f2 y.f3 y.f4 := by
 rw [check_Clash.l0, if_pos h3, in_check k hk, in_check k hk, begins_check, wrap_of (by omega) (by omega)]
 unfold rowB
 cases inB x.f0 row <;> cases inB y.f0 row <;> cases beg x.f2 y.f2 <;> cases beg y.f2 x.f2 <;> rfl
theorem clash_last (x y : S33) (k : Nat) (hk : 1 ≤ k) (hx : keptB x = true → x.f2.size = 1) (hy : keptB y = true → y.f2.size = 1) : check_Clash.l0 (k + 1) 4 x.f0 x.f1 x.f2 x.f3 x.f4 y.f0 y.f1 y.f2 y.f3 y.f4 = some (spoilsB x y || spoilsB y x) := by
 rw [check_Clash.l0, if_neg (by decide), spoils_check x y k hk hx, spoils_check y x k hk hy]
 cases spoilsB x y <;> cases spoilsB y x <;> rfl
theorem clash_check (x y : S33) (k : Nat) (hk : 16 ≤ k) (hx : keptB x = true → x.f2.size = 1) (hy : keptB y = true → y.f2.size = 1) : check_Clash.f k x.f0 x.f1 x.f2 x.f3 x.f4 y.f0 y.f1 y.f2 y.f3 y.f4 = some (clashB x y) := by
 obtain ⟨k, rfl⟩ : ∃ m, k = m + 13 := ⟨k - 13, by omega⟩
 have r1 : check_Clash.l0 (k + 12) 1 x.f0 x.f1 x.f2 x.f3 x.f4 y.f0 y.f1 y.f2 y.f3 y.f4 = if rowB x y 1 = true then some true else check_Clash.l0 (k + 11) 2 x.f0 x.f1 x.f2 x.f3 x.f4 y.f0 y.f1 y.f2 y.f3 y.f4 := clash_row x y (k + 11) (by omega) 1 (by decide) (by decide)
 have r2 : check_Clash.l0 (k + 11) 2 x.f0 x.f1 x.f2 x.f3 x.f4 y.f0 y.f1 y.f2 y.f3 y.f4 = if rowB x y 2 = true then some true else check_Clash.l0 (k + 10) 3 x.f0 x.f1 x.f2 x.f3 x.f4 y.f0 y.f1 y.f2 y.f3 y.f4 := clash_row x y (k + 10) (by omega) 2 (by decide) (by decide)
 have r3 : check_Clash.l0 (k + 10) 3 x.f0 x.f1 x.f2 x.f3 x.f4 y.f0 y.f1 y.f2 y.f3 y.f4 = if rowB x y 3 = true then some true else check_Clash.l0 (k + 9) 4 x.f0 x.f1 x.f2 x.f3 x.f4 y.f0 y.f1 y.f2 y.f3 y.f4 := clash_row x y (k + 9) (by omega) 3 (by decide) (by decide)
 have hj : ∀ b, check_Clash.j0 (k + 13) b x.f0 x.f1 x.f2 x.f3 x.f4 y.f0 y.f1 y.f2 y.f3 y.f4 = some (b || rowB x y 1 || rowB x y 2 || rowB x y 3 || spoilsB x y || spoilsB y x) := by
  intro b
  rw [check_Clash.j0, r1, r2, r3, clash_last x y (k + 8) (by omega) hx hy]
  cases b <;> cases rowB x y 1 <;> cases rowB x y 2 <;> cases rowB x y 3 <;> rfl
 unfold check_Clash.f clashB
 simp only [hj]
 by_cases h0 : x.f0 = y.f0
 ·
  rw [if_pos h0, beq_iff_eq.2 h0, Bool.true_and]
  by_cases h1 : x.f1.toList = y.f1.toList
  ·
   rw [if_pos h1, beq_iff_eq.2 h1]; simp
  ·
   rw [if_neg h1, beq_eq_false_iff_ne.2 h1]
   by_cases h2 : x.f0 = 5
   ·
    rw [if_pos h2, beq_iff_eq.2 h2]; simp
   ·
    rw [if_neg h2, beq_eq_false_iff_ne.2 h2]; simp
 ·
  rw [if_neg h0, beq_eq_false_iff_ne.2 h0, Bool.false_and]
end Go.Proofs.Ytbpbniemjjhecaa.PureC
