import Derived.Test.YtbpbniemjjhecaaZGCharsCase
import Derived.Test.YtbpbniemjjhecaaZPChk2
import Derived.Test.YtbpbniemjjhecaaZPureChkBase
import Derived.Test.YtbpbniemjjhecaaZPureChkClash
section
namespace Go.Proofs.Ytbpbniemjjhecaa.PureC
open Go.RowKit Go.Proofs.Ytbpbniemjjhecaa.PChk Go.Proofs.Ytbpbniemjjhecaa.G Go.Proofs.YtbpbniemjjhecaaW.PrintWords Go.Proofs.YtbpbniemjjhecaaW.PrintLast
set_option linter.unusedSimpArgs false
theorem span_spec (k : Int) : ∀ (l : List UInt8) (j : Nat), j < spanN k l → ∀ x, l[j]? = some x → classN (x.toNat : Int) = k
 | [], j, h, x, hx => by simp at hx
 | b :: l, j, h, x, hx => by
  rw [spanN] at h
  split at h
  ·
   next hb =>
   cases j with
   | zero => simp at hx; rw [← hx]; exact hb
   | succ j => exact span_spec k l j (by omega) x (by simpa using hx)
  ·
   omega
def smallFrom (s : ByteArray) (a : Nat) : Prop := ∀ j (h : j < s.size), a ≤ j → classN (s[j].toNat : Int) = 1
theorem case_go (s : ByteArray) (hs : s.size ≤ 140737488351232) : ∀ (n a m : Nat) (f : Bool) (r : Int), s.size - a ≤ n → a ≤ s.size → m + (s.size - a) ≤ 1000000000000000000 →
  (smallFrom s a → ∃ f' r', caseGo (runsFrom s n a) f r (m : Int) = some (f', r', ((m + (s.size - a) : Nat) : Int))) ∧
  (∀ f' r' m', caseGo (runsFrom s n a) f r (m : Int) = some (f', r', m') → m' ≤ ((m + (s.size - a) : Nat) : Int) ∧ (m' = ((m + (s.size - a) : Nat) : Int) → smallFrom s a))
 | 0, a, m, f, r, h, ha, hm => by
  rw [runsFrom, caseGo]
  have e : s.size - a = 0 := by omega
  rw [e]
  refine ⟨fun _ => ⟨f, r, rfl⟩, ?_⟩
  intro f' r' m' h1
  cases h1
  exact ⟨by omega, fun _ j hj hja => absurd hj (by omega)⟩
 | n + 1, a, m, f, r, h, ha, hm => by
  rw [runsFrom]
  by_cases hlt : a < s.size
  ·
   rw [dif_pos hlt]
   generalize hc : classN (s[a].toNat : Int) = c
   have hsl : s.data.toList.length = s.size := by rw [Array.length_toList]; rfl
   have hle := spanN_le c (s.data.toList.drop (a + 1))
   rw [List.length_drop, hsl] at hle
   have hspan := span_spec c (s.data.toList.drop (a + 1))
   generalize hN : spanN c (s.data.toList.drop (a + 1)) = N at hle hspan
   have hz : (s.extract a (a + 1 + N)).size = 1 + N := by
    simp only [ByteArray.size_extract]; omega
   have hhead : headN (s.extract a (a + 1 + N)) = (s[a].toNat : Int) := by
    rw [headN_at _ (by omega), ByteArray.getElem_extract]
    simp
   have hbytes : ∀ j (hj : j < s.size), a ≤ j → j < a + 1 + N → classN (s[j].toNat : Int) = c := by
    intro j hj h1 h2
    by_cases hja : j = a
    ·
     subst hja; exact hc
    ·
     have e1 : (s.data.toList.drop (a + 1))[j - (a + 1)]? = some s[j] := by
      rw [List.getElem?_drop, show a + 1 + (j - (a + 1)) = j from by omega, List.getElem?_eq_getElem (by omega)]
      rfl
     exact hspan (j - (a + 1)) (by omega) s[j] e1
   rw [caseGo]
   simp only [hhead, hc, hz]
   by_cases h1 : c = 1
   ·
    rw [if_pos h1, wrap_of (by omega) (by omega)]
    obtain ⟨i1, i2⟩ := case_go s hs n (a + 1 + N) (m + (1 + N)) f r (by omega) (by omega) (by omega)
    have em : ((m : Int) + ((1 + N : Nat) : Int)) = ((m + (1 + N) : Nat) : Int) := by omega
    rw [em]
    have hP : smallFrom s (a + 1 + N) → smallFrom s a := fun g j hj hja => by
     by_cases hb : j < a + 1 + N
     ·
      rw [hbytes j hj hja hb, h1]
     ·
      exact g j hj (by omega)
    refine ⟨fun g => ?_, fun f' r' m' hg => ?_⟩
    ·
     obtain ⟨f', r', e⟩ := i1 (fun j hj hja => g j hj (by omega))
     refine ⟨f', r', ?_⟩
     rw [e]
     congr 3
     omega
    ·
     obtain ⟨j1, j2⟩ := i2 f' r' m' hg
     refine ⟨by omega, fun e => hP (j2 (by omega))⟩
   ·
    rw [if_neg h1]
    have hnP : ¬ smallFrom s a := fun g => h1 (by rw [← hc]; exact g a hlt (Nat.le_refl _))
    refine ⟨fun g => absurd g hnP, fun f' r' m' hg => ?_⟩
    have key : ∀ f1 r1, caseGo (runsFrom s n (a + 1 + N)) f1 r1 (m : Int) = some (f', r', m') → m' < ((m + (s.size - a) : Nat) : Int) := by
     intro f1 r1 hg1
     have := ((case_go s hs n (a + 1 + N) m f1 r1 (by omega) (by omega) (by omega)).2 f' r' m' hg1).1
     omega
    have hlt' : m' < ((m + (s.size - a) : Nat) : Int) := by
     split at hg
     ·
      split at hg
      ·
       exact key _ _ hg
      ·
       exact key _ _ hg
     ·
      cases hg
    exact ⟨by omega, fun e => absurd e (by omega)⟩
  ·
   rw [dif_neg hlt, caseGo]
   have e : s.size - a = 0 := by omega
   rw [e]
   refine ⟨fun _ => ⟨f, r, rfl⟩, ?_⟩
   intro f' r' m' h1
   cases h1
   exact ⟨by omega, fun _ j hj hja => absurd hj (by omega)⟩
def smallB (s : ByteArray) : Bool := s.data.toList.all fun b => classN (b.toNat : Int) == 1
theorem small_iff (s : ByteArray) : smallB s = true ↔ smallFrom s 0 := by
 unfold smallB smallFrom
 rw [List.all_eq_true]
 constructor
 ·
  intro h j hj _
  have hmem : s[j] ∈ s.data.toList := by
   rw [show s[j] = s.data.toList[j]'(by rw [Array.length_toList]; exact hj) from rfl]
   exact List.getElem_mem _
  have := h s[j] hmem
  simpa using this
 ·
  intro h b hb
  obtain ⟨j, hj, rfl⟩ := List.getElem_of_mem hb
  rw [Array.length_toList] at hj
  exact beq_iff_eq.2 (h j hj (Nat.zero_le _))
theorem case_small (s : ByteArray) (hs : s.size ≤ 140737488351232) : (caseF s == 1) = (decide (0 < s.size) && smallB s) := by
 obtain ⟨i1, i2⟩ := case_go s hs s.size 0 0 false 0 (by omega) (by omega) (by omega)
 have hs0 : s.data.toList.length = s.size := by rw [Array.length_toList]; rfl
 have hemp : s.toList.isEmpty = decide (s.size = 0) := by
  rw [ByteArray.toList_eq, Bool.eq_iff_iff, List.isEmpty_iff_length_eq_zero, hs0, decide_eq_true_eq]
 unfold caseF runs
 rw [show ((0 : Nat) : Int) = 0 from rfl] at i1 i2
 rw [Bool.eq_iff_iff, beq_iff_eq, Bool.and_eq_true, decide_eq_true_eq, small_iff]
 cases hg : caseGo (runsFrom s s.size 0) false 0 0 with
 | none =>
  constructor
  ·
   intro h
   have h' : (0 : Int) = 1 := h
   omega
  ·
   rintro ⟨_, h⟩
   obtain ⟨f', r', e⟩ := i1 h
   rw [hg] at e
   cases e
 | some t =>
  obtain ⟨f', r', m'⟩ := t
  obtain ⟨j1, j2⟩ := i2 f' r' m' hg
  simp only [hemp]
  by_cases h0 : s.size = 0
  ·
   rw [if_pos (by simpa using h0)]
   constructor
   ·
    intro h; exact absurd h (by decide)
   ·
    rintro ⟨h, _⟩; omega
  ·
   rw [if_neg (by simpa using h0)]
   by_cases hm : m' = (s.size : Int)
   ·
    rw [if_pos hm]
    exact ⟨fun _ => ⟨by omega, j2 (by omega)⟩, fun _ => rfl⟩
   ·
    rw [if_neg hm]
    constructor
    ·
     intro h
     exfalso
     split at h
     ·
      exact absurd h (by decide)
     ·
      split at h
      ·
       exact absurd h (by decide)
      ·
       exact absurd h (by decide)
    ·
     rintro ⟨_, h⟩
     obtain ⟨f'', r'', e⟩ := i1 h
     rw [hg] at e
     simp only [Option.some.injEq, Prod.mk.injEq] at e
     omega
theorem class_256 : ∀ n : Fin 256, r1_Class.f 40 (n.val : Int) = some (classN (n.val : Int)) ∧ chars_Class.f (n.val : Int) = some (classN (n.val : Int)) := by decide +kernel
theorem class_ref (k : Nat) (hk : 40 ≤ k) (b : UInt8) : r1_Class.f k (b.toNat : Int) = some (classN (b.toNat : Int)) :=
 at_rounds (g := fun k => r1_Class.f k (b.toNat : Int)) (fun k => r1_Class.mono _ k) hk (class_256 ⟨b.toNat, b.toNat_lt⟩).1
theorem class_check (b : UInt8) : chars_Class.f (b.toNat : Int) = some (classN (b.toNat : Int)) := (class_256 ⟨b.toNat, b.toNat_lt⟩).2
end Go.Proofs.Ytbpbniemjjhecaa.PureC
end
section
namespace Go.Proofs.Ytbpbniemjjhecaa.PureC
open Go.RowKit Go.Proofs.Ytbpbniemjjhecaa.PChk Go.Proofs.Ytbpbniemjjhecaa.G Go.Proofs.YtbpbniemjjhecaaW.PrintWords Go.Proofs.YtbpbniemjjhecaaW.PrintLast
set_option linter.unusedSimpArgs false
theorem list_len (s : ByteArray) : s.data.toList.length = s.size := by rw [Array.length_toList]; rfl
theorem drop_byte (s : ByteArray) (i : Nat) (h : i < s.size) : s.data.toList.drop i = s[i] :: s.data.toList.drop (i + 1) := List.drop_eq_getElem_cons (by rw [list_len]; exact h)
def cellsB (l : List UInt8) : Bool := l.all fun b => decide (1 ≤ b.toNat ∧ b.toNat ≤ 63)
def printB (s : ByteArray) : Bool := decide (1 ≤ s.size ∧ s.size ≤ 4) && cellsB s.data.toList
theorem dots_256 : ∀ n : Fin 256, (match cell_Dots.f 20 (n.val : Int) with
  | some t => decide (t.size ≤ 6)
  | none => false) = true ∧ cell_may.f (n.val : Int) = some (decide (n.val ≤ 63)) := by decide +kernel
theorem dots_check (k : Nat) (hk : 20 ≤ k) (b : UInt8) : ∃ t, cell_Dots.f k (b.toNat : Int) = some t ∧ t.size ≤ 6 := by
 have h := (dots_256 ⟨b.toNat, b.toNat_lt⟩).1
 split at h
 ·
  next t ht => exact ⟨t, at_rounds (g := fun k => cell_Dots.f k (b.toNat : Int)) (fun k => cell_Dots.mono _ k) hk ht, by simpa using h⟩
 ·
  cases h
theorem join_some (l : List ByteArray) (h4 : l.length ≤ 4) (h6 : ∀ t ∈ l, t.size ≤ 6) : ∃ t, strings_Join.f l ⟨#[45]⟩ = some t := by
 unfold strings_Join.f
 have hl : ∀ (xs : List (List UInt8)) (sep : List UInt8), (Lib.joinTail sep xs).length ≤ (xs.map (fun x => x.length + sep.length)).sum := by
  intro xs sep
  induction xs with
  | nil => exact Nat.le_refl _
  | cons x xs ih =>
   unfold Lib.joinTail at ih ⊢
   simp only [List.map_cons, List.flatten_cons, List.length_append, List.sum_cons]
   omega
 have hs : ∀ l : List ByteArray, (∀ t ∈ l, t.size ≤ 6) → ((l.map (·.data.toList)).map (fun x => x.length + [(45 : UInt8)].length)).sum ≤ 7 * l.length := by
  intro l
  induction l with
  | nil => intro _; exact Nat.le_refl _
  | cons x l ih =>
   intro h
   have h1 := ih (fun t ht => h t (List.mem_cons_of_mem _ ht))
   have h2 := h x List.mem_cons_self
   have h3 := list_len x
   simp only [List.map_cons, List.sum_cons, List.length_cons, List.length_nil] at h1 ⊢
   omega
 rw [if_pos]
 ·
  exact ⟨_, rfl⟩
 ·
  refine ⟨by omega, ?_⟩
  cases l with
  | nil => simp [Lib.join_nil]
  | cons x l =>
   rw [List.map_cons, Lib.join_cons, List.length_append]
   have h1 := hl (l.map (·.data.toList)) [45]
   have h2 := hs l (fun t ht => h6 t (List.mem_cons_of_mem _ ht))
   have h3 := h6 x List.mem_cons_self
   have h4' := list_len x
   simp only [List.length_cons] at h4
   show _ + (Lib.joinTail [45] _).length ≤ _
   omega
theorem print_go (s : ByteArray) (hs : s.size ≤ 100000) : ∀ (n k i : Nat) (acc : List ByteArray), i + n = s.size → n + 21 ≤ k → acc.length = i → (∀ t ∈ acc, t.size ≤ 6) →
  ∃ t e, cell_Print.l0 k s acc (s.size : Int) (i : Int) = some (t, e) ∧ (e = 0 ↔ (cellsB (s.data.toList.drop i) = true ∧ 1 ≤ s.size ∧ s.size ≤ 4))
 | 0, k, i, acc, hi, hk, ha, h6 => by
  obtain ⟨k, rfl⟩ : ∃ m, k = m + 1 := ⟨k - 1, by omega⟩
  have hnil : s.data.toList.drop i = [] := List.drop_of_length_le (by rw [list_len]; omega)
  rw [cell_Print.l0, if_neg (by omega), hnil]
  by_cases h0 : (acc.length : Int) = 0
  ·
   exact ⟨_, _, by rw [if_pos h0], by constructor; (intro h; cases h); (rintro ⟨_, _, _⟩; omega)⟩
  ·
   by_cases h4 : (acc.length : Int) > 4
   ·
    exact ⟨_, _, by rw [if_neg h0, if_pos h4], by constructor; (intro h; cases h); (rintro ⟨_, _, _⟩; omega)⟩
   ·
    obtain ⟨t, ht⟩ := join_some acc (by omega) h6
    exact ⟨t, 0, by rw [if_neg h0, if_neg h4, ht]; rfl, ⟨fun _ => ⟨rfl, by omega, by omega⟩, fun _ => rfl⟩⟩
 | n + 1, k, i, acc, hi, hk, ha, h6 => by
  obtain ⟨k, rfl⟩ : ∃ m, k = m + 1 := ⟨k - 1, by omega⟩
  have hlt : i < s.size := by omega
  have hm := (dots_256 ⟨s[i].toNat, s[i].toNat_lt⟩).2
  simp only at hm
  rw [cell_Print.l0, if_pos (by omega), if_pos (by omega), if_pos (by omega), bt_of s i hlt, hm, Option.bind_some, drop_byte s i hlt]
  have hc : cellsB (s[i] :: s.data.toList.drop (i + 1)) = (decide (1 ≤ s[i].toNat ∧ s[i].toNat ≤ 63) && cellsB (s.data.toList.drop (i + 1))) := rfl
  rw [hc]
  by_cases h1 : s[i].toNat ≤ 63
  ·
   rw [if_pos (by simpa using h1)]
   by_cases h0 : (s[i].toNat : Int) = 0
   ·
    exact ⟨_, _, by rw [if_pos h0], by constructor; (intro h; cases h); (rintro ⟨h, _⟩; rw [Bool.and_eq_true, decide_eq_true_eq] at h; omega)⟩
   ·
    obtain ⟨t, ht, ht6⟩ := dots_check k (by omega) s[i]
    obtain ⟨t', e, h, he⟩ := print_go s hs n k (i + 1) (acc ++ [t]) (by omega) (by omega) (by rw [List.length_append, ha]; rfl) (fun u hu => by
     rcases List.mem_append.1 hu with h | h
     ·
      exact h6 u h
     ·
      rw [List.mem_singleton.1 h]; exact ht6)
    refine ⟨t', e, ?_, ?_⟩
    ·
     rw [if_neg h0, ht, Option.bind_some, if_pos (by omega), wrap_of (by omega) (by omega), show ((i : Int) + 1) = ((i + 1 : Nat) : Int) from by omega, h]
    ·
     rw [he, Bool.and_eq_true, decide_eq_true_eq]
     constructor
     ·
      rintro ⟨a, b⟩; exact ⟨⟨⟨by omega, h1⟩, a⟩, b⟩
     ·
      rintro ⟨⟨_, a⟩, b⟩; exact ⟨a, b⟩
  ·
   exact ⟨_, _, by rw [if_neg (by simpa using h1)], by constructor; (intro h; cases h); (rintro ⟨h, _⟩; rw [Bool.and_eq_true, decide_eq_true_eq] at h; omega)⟩
theorem print_check (s : ByteArray) (hs : s.size ≤ 100000) (k : Nat) (hk : s.size + 21 ≤ k) : ∃ t e, cell_Print.f k s = some (t, e) ∧ (e == 0) = printB s := by
 obtain ⟨t, e, h, he⟩ := print_go s hs s.size k 0 [] (by omega) hk rfl (by intro t ht; cases ht)
 refine ⟨t, e, h, ?_⟩
 unfold printB
 rw [Bool.eq_iff_iff, beq_iff_eq, he, List.drop_zero, Bool.and_eq_true, decide_eq_true_eq]
 exact ⟨fun ⟨a, b⟩ => ⟨b, a⟩, fun ⟨a, b⟩ => ⟨b, a⟩⟩
end Go.Proofs.Ytbpbniemjjhecaa.PureC
end
