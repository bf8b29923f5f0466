import Derived.Test.YtbpbniemjjhecaaZPureChkClash
import Derived.Test.YtbpbniemjjhecaaZPureChkCase
namespace Go.Proofs.Ytbpbniemjjhecaa.PureC
open Go.RowKit Go.Proofs.Ytbpbniemjjhecaa.PChk Go.Proofs.Ytbpbniemjjhecaa.G Go.Proofs.YtbpbniemjjhecaaW.PrintWords Go.Proofs.YtbpbniemjjhecaaW.PrintLast
set_option linter.unusedSimpArgs false
theorem list_len (s : ByteArray) : s.data.toList.length = s.size := by rw [Array.length_toList]; rfl
theorem drop_byte (s : ByteArray) (i : Nat) (h : i < s.size) : s.data.toList.drop i = s[i] :: s.data.toList.drop (i + 1) := List.drop_eq_getElem_cons (by rw [list_len]; exact h)
def cellsB (l : List UInt8) : Bool := l.all fun b => decide (1 ≤ b.toNat ∧ b.toNat ≤ 63)
def printB (s : ByteArray) : Bool := decide (1 ≤ s.size ∧ s.size ≤ 4) && cellsB s.data.toList
theorem dots_256 : ∀ n : Fin 256, (match cell_Dots.f 20 (n.val : Int) with
  | some t => decide (t.size ≤ 6)
  | none => false) = true ∧ cell_may.f (n.val : Int) = some (decide (n.val ≤ 63)) := by decide +kernel
theorem dots_check (k : Nat) (hk : 20 ≤ k) (b : UInt8) : ∃ t, cell_Dots.f k (b.toNat : Int) = some t ∧ t.size ≤ 6 := by
 have h := (dots_256 ⟨b.toNat, b.toNat_lt⟩).1
 split at h
 ·
  next t ht => exact ⟨t, at_rounds (g := fun k => cell_Dots.f k (b.toNat : Int)) (fun k => cell_Dots.mono _ k) hk ht, by simpa using h⟩
 ·
  cases h
theorem join_some (l : List ByteArray) (h4 : l.length ≤ 4) (h6 : ∀ t ∈ l, t.size ≤ 6) : ∃ t, strings_Join.f l ⟨#[45]⟩ = some t := by
 unfold strings_Join.f
 have hl : ∀ (xs : List (List UInt8)) (sep : List UInt8), (Lib.joinTail sep xs).length ≤ (xs.map (fun x => x.length + sep.length)).sum := by
  intro xs sep
  induction xs with
  | nil => exact Nat.le_refl _
  | cons x xs ih =>
   unfold Lib.joinTail at ih ⊢
   simp only [List.map_cons, List.flatten_cons, List.length_append, List.sum_cons]
   omega
 have hs : ∀ l : List ByteArray, (∀ t ∈ l, t.size ≤ 6) → ((l.map (·.data.toList)).map (fun x => x.length + [(45 : UInt8)].length)).sum ≤ 7 * l.length := by
  intro l
  induction l with
  | nil => intro _; exact Nat.le_refl _
  | cons x l ih =>
   intro h
   have h1 := ih (fun t ht => h t (List.mem_cons_of_mem _ ht))
   have h2 := h x List.mem_cons_self
   have h3 := list_len x
   simp only [List.map_cons, List.sum_cons, List.length_cons, List.length_nil] at h1 ⊢
   omega
 rw [if_pos]
 ·
  exact ⟨_, rfl⟩
 ·
  refine ⟨by omega, ?_⟩
  cases l with
  | nil => simp [Lib.join_nil]
  | cons x l =>
   rw [List.map_cons, Lib.join_cons, List.length_append]
   have h1 := hl (l.map (·.data.toList)) [45]
   have h2 := hs l (fun t ht => h6 t (List.mem_cons_of_mem _ ht))
   have h3 := h6 x List.mem_cons_self
   have h4' := list_len x
   simp only [List.length_cons] at h4
   show _ + (Lib.joinTail [45] _).length ≤ _
   omega
theorem print_go (s : ByteArray) (hs : s.size ≤ 100000) : ∀ (n k i : Nat) (acc : List ByteArray), i + n = s.size → n + 21 ≤ k → acc.length = i → (∀ t ∈ acc, t.size ≤ 6) →
  ∃ t e, cell_Print.l0 k s acc (s.size : Int) (i : Int) = some (t, e) ∧ (e = 0 ↔ (cellsB (s.data.toList.drop i) = true ∧ 1 ≤ s.size ∧ s.size ≤ 4))
 | 0, k, i, acc, hi, hk, ha, h6 => by
  obtain ⟨k, rfl⟩ : ∃ m, k = m + 1 := ⟨k - 1, by omega⟩
  have hnil : s.data.toList.drop i = [] := List.drop_of_length_le (by rw [list_len]; omega)
  rw [cell_Print.l0, if_neg (by omega), hnil]
  by_cases h0 : (acc.length : Int) = 0
  ·
   exact ⟨_, _, by rw [if_pos h0], by constructor; (intro h; cases h); (rintro ⟨_, _, _⟩; omega)⟩
  ·
   by_cases h4 : (acc.length : Int) > 4
   ·
    exact ⟨_, _, by rw [if_neg h0, if_pos h4], by constructor; (intro h; cases h); (rintro ⟨_, _, _⟩; omega)⟩
   ·
    obtain ⟨t, ht⟩ := join_some acc (by omega) h6
    exact ⟨t, 0, by rw [if_neg h0, if_neg h4, ht]; rfl, ⟨fun _ => ⟨rfl, by omega, by omega⟩, fun _ => rfl⟩⟩
 | n + 1, k, i, acc, hi, hk, ha, h6 => by
  obtain ⟨k, rfl⟩ : ∃ m, k = m + 1 := ⟨k - 1, by omega⟩
  have hlt : i < s.size := by omega
  have hm := (dots_256 ⟨s[i].toNat, s[i].toNat_lt⟩).2
  simp only at hm
  rw [cell_Print.l0, if_pos (by omega), if_pos (by omega), if_pos (by omega), bt_of s i hlt, hm, Option.bind_some, drop_byte s i hlt]
  have hc : cellsB (s[i] :: s.data.toList.drop (i + 1)) = (decide (1 ≤ s[i].toNat ∧ s[i].toNat ≤ 63) && cellsB (s.data.toList.drop (i + 1))) := rfl
  rw [hc]
  by_cases h1 : s[i].toNat ≤ 63
  ·
   rw [if_pos (by simpa using h1)]
   by_cases h0 : (s[i].toNat : Int) = 0
   ·
    exact ⟨_, _, by rw [if_pos h0], by constructor; (intro h; cases h); (rintro ⟨h, _⟩; rw [Bool.and_eq_true, decide_eq_true_eq] at h; omega)⟩
   ·
    obtain ⟨t, ht, ht6⟩ := dots_check k (by omega) s[i]
    obtain ⟨t', e, h, he⟩ := print_go s hs n k (i + 1) (acc ++ [t]) (by omega) (by omega) (by rw [List.length_append, ha]; rfl) (fun u hu => by
     rcases List.mem_append.1 hu with h | h
     ·
      exact h6 u h
     ·
      rw [List.mem_singleton.1 h]; exact ht6)
    refine ⟨t', e, ?_, ?_⟩
    ·
     rw [if_neg h0, ht, Option.bind_some, if_pos (by omega), wrap_of (by omega) (by omega), show ((i : Int) + 1) = ((i + 1 : Nat) : Int) from by omega, h]
    ·
     rw [he, Bool.and_eq_true, decide_eq_true_eq]
     constructor
     ·
      rintro ⟨a, b⟩; exact ⟨⟨⟨by omega, h1⟩, a⟩, b⟩
     ·
      rintro ⟨⟨_, a⟩, b⟩; exact ⟨a, b⟩
  ·
   exact ⟨_, _, by rw [if_neg (by simpa using h1)], by constructor; (intro h; cases h); (rintro ⟨h, _⟩; rw [Bool.and_eq_true, decide_eq_true_eq] at h; omega)⟩
theorem print_check (s : ByteArray) (hs : s.size ≤ 100000) (k : Nat) (hk : s.size + 21 ≤ k) : ∃ t e, cell_Print.f k s = some (t, e) ∧ (e == 0) = printB s := by
 obtain ⟨t, e, h, he⟩ := print_go s hs s.size k 0 [] (by omega) hk rfl (by intro t ht; cases ht)
 refine ⟨t, e, h, ?_⟩
 unfold printB
 rw [Bool.eq_iff_iff, beq_iff_eq, he, List.drop_zero, Bool.and_eq_true, decide_eq_true_eq]
 exact ⟨fun ⟨a, b⟩ => ⟨b, a⟩, fun ⟨a, b⟩ => ⟨b, a⟩⟩
end Go.Proofs.Ytbpbniemjjhecaa.PureC
