import Derived.Test.YtbpbniemjjhecaaGreatZGCharsCase
import Derived.Test.YtbpbniemjjhecaaGreatZPChk7
import Derived.Test.YtbpbniemjjhecaaGreatZPureChkClash
section
namespace Go.Proofs.YtbpbniemjjhecaaGreat.PureC
open Go.RowKit Go.Proofs.YtbpbniemjjhecaaGreat.PChk Go.Proofs.YtbpbniemjjhecaaGreat.G Go.Proofs.YtbpbniemjjhecaaGreatW.PrintWords Go.Proofs.YtbpbniemjjhecaaGreatW.PrintLast
set_option linter.unusedSimpArgs false
theorem span_spec (k : Int) : ∀ (l : List UInt8) (j : Nat), j < spanN k l → ∀ x, l[j]? = some x → classN (x.toNat : Int) = k
 | [], j, h, x, hx => by simp at hx
 | b :: l, j, h, x, hx => by
  rw [spanN] at h
  split at h
  ·
   next hb =>
   cases j with
   | zero => simp at hx; rw [← hx]; exact hb
   | succ j => exact span_spec k l j (by omega) x (by simpa using hx)
  ·
   omega
def smallFrom (s : ByteArray) (a : Nat) : Prop := ∀ j (h : j < s.size), a ≤ j → classN (s[j].toNat : Int) = 1
theorem case_go (s : ByteArray) (hs : s.size ≤ 140737488351232) : ∀ (n a m : Nat) (f : Bool) (r : Int), s.size - a ≤ n → a ≤ s.size → m + (s.size - a) ≤ 1000000000000000000 →
  (smallFrom s a → ∃ f' r', caseGo (runsFrom s n a) f r (m : Int) = some (f', r', ((m + (s.size - a) : Nat) : Int))) ∧
  (∀ f' r' m', caseGo (runsFrom s n a) f r (m : Int) = some (f', r', m') → m' ≤ ((m + (s.size - a) : Nat) : Int) ∧ (m' = ((m + (s.size - a) : Nat) : Int) → smallFrom s a))
 | 0, a, m, f, r, h, ha, hm => by
  rw [runsFrom, caseGo]
  have e : s.size - a = 0 := by omega
  rw [e]
  refine ⟨fun _ => ⟨f, r, rfl⟩, ?_⟩
  intro f' r' m' h1
  cases h1
  exact ⟨by omega, fun _ j hj hja => absurd hj (by omega)⟩
 | n + 1, a, m, f, r, h, ha, hm => by
  rw [runsFrom]
  by_cases hlt : a < s.size
  ·
   rw [dif_pos hlt]
   generalize hc : classN (s[a].toNat : Int) = c
   have hsl : s.data.toList.length = s.size := by rw [Array.length_toList]; rfl
   have hle := spanN_le c (s.data.toList.drop (a + 1))
   rw [List.length_drop, hsl] at hle
   have hspan := span_spec c (s.data.toList.drop (a + 1))
   generalize hN : spanN c (s.data.toList.drop (a + 1)) = N at hle hspan
   have hz : (s.extract a (a + 1 + N)).size = 1 + N := by
    simp only [ByteArray.size_extract]; omega
   have hhead : headN (s.extract a (a + 1 + N)) = (s[a].toNat : Int) := by
    rw [headN_at _ (by omega), ByteArray.getElem_extract]
    simp
   have hbytes : ∀ j (hj : j < s.size), a ≤ j → j < a + 1 + N → classN (s[j].toNat : Int) = c := by
    intro j hj h1 h2
    by_cases hja : j = a
    ·
     subst hja; exact hc
    ·
     have e1 : (s.data.toList.drop (a + 1))[j - (a + 1)]? = some s[j] := by
      rw [List.getElem?_drop, show a + 1 + (j - (a + 1)) = j from by omega, List.getElem?_eq_getElem (by omega)]
      rfl
     exact hspan (j - (a + 1)) (by omega) s[j] e1
   rw [caseGo]
   simp only [hhead, hc, hz]
   by_cases h1 : c = 1
   ·
    rw [if_pos h1, wrap_of (by omega) (by omega)]
    obtain ⟨i1, i2⟩ := case_go s hs n (a + 1 + N) (m + (1 + N)) f r (by omega) (by omega) (by omega)
    have em : ((m : Int) + ((1 + N : Nat) : Int)) = ((m + (1 + N) : Nat) : Int) := by omega
    rw [em]
    have hP : smallFrom s (a + 1 + N) → smallFrom s a := fun g j hj hja => by
     by_cases hb : j < a + 1 + N
     ·
      rw [hbytes j hj hja hb, h1]
     ·
      exact g j hj (by omega)
    refine ⟨fun g => ?_, fun f' r' m' hg => ?_⟩
    ·
     obtain ⟨f', r', e⟩ := i1 (fun j hj hja => g j hj (by omega))
     refine ⟨f', r', ?_⟩
     rw [e]
     congr 3
     omega
    ·
     obtain ⟨j1, j2⟩ := i2 f' r' m' hg
     refine ⟨by omega, fun e => hP (j2 (by omega))⟩
   ·
    rw [if_neg h1]
    have hnP : ¬ smallFrom s a := fun g => h1 (by rw [← hc]; exact g a hlt (Nat.le_refl _))
    refine ⟨fun g => absurd g hnP, fun f' r' m' hg => ?_⟩
    have key : ∀ f1 r1, caseGo (runsFrom s n (a + 1 + N)) f1 r1 (m : Int) = some (f', r', m') → m' < ((m + (s.size - a) : Nat) : Int) := by
     intro f1 r1 hg1
     have := ((case_go s hs n (a + 1 + N) m f1 r1 (by omega) (by omega) (by omega)).2 f' r' m' hg1).1
     omega
    have hlt' : m' < ((m + (s.size - a) : Nat) : Int) := by
     split at hg
     ·
      split at hg
      ·
       exact key _ _ hg
      ·
       exact key _ _ hg
     ·
      cases hg
    exact ⟨by omega, fun e => absurd e (by omega)⟩
  ·
   rw [dif_neg hlt, caseGo]
   have e : s.size - a = 0 := by omega
   rw [e]
   refine ⟨fun _ => ⟨f, r, rfl⟩, ?_⟩
   intro f' r' m' h1
   cases h1
   exact ⟨by omega, fun _ j hj hja => absurd hj (by omega)⟩
def smallB (s : ByteArray) : Bool := s.data.toList.all fun b => classN (b.toNat : Int) == 1
theorem small_iff (s : ByteArray) : smallB s = true ↔ smallFrom s 0 := by
 unfold smallB smallFrom
 rw [List.all_eq_true]
 constructor
 ·
  intro h j hj _
  have hmem : s[j] ∈ s.data.toList := by
   rw [show s[j] = s.data.toList[j]'(by rw [Array.length_toList]; exact hj) from rfl]
   exact List.getElem_mem _
  have := h s[j] hmem
  simpa using this
 ·
  intro h b hb
  obtain ⟨j, hj, rfl⟩ := List.getElem_of_mem hb
  rw [Array.length_toList] at hj
  exact beq_iff_eq.2 (h j hj (Nat.zero_le _))
theorem case_small (s : ByteArray) (hs : s.size ≤ 140737488351232) : (caseF s == 1) = (decide (0 < s.size) && smallB s) := by
 obtain ⟨i1, i2⟩ := case_go s hs s.size 0 0 false 0 (by omega) (by omega) (by omega)
 have hs0 : s.data.toList.length = s.size := by rw [Array.length_toList]; rfl
 have hemp : s.toList.isEmpty = decide (s.size = 0) := by
  rw [ByteArray.toList_eq, Bool.eq_iff_iff, List.isEmpty_iff_length_eq_zero, hs0, decide_eq_true_eq]
 unfold caseF runs
 rw [show ((0 : Nat) : Int) = 0 from rfl] at i1 i2
 rw [Bool.eq_iff_iff, beq_iff_eq, Bool.and_eq_true, decide_eq_true_eq, small_iff]
 cases hg : caseGo (runsFrom s s.size 0) false 0 0 with
 | none =>
  constructor
  ·
   intro h
   have h' : (0 : Int) = 1 := h
   omega
  ·
   rintro ⟨_, h⟩
   obtain ⟨f', r', e⟩ := i1 h
   rw [hg] at e
   cases e
 | some t =>
  obtain ⟨f', r', m'⟩ := t
  obtain ⟨j1, j2⟩ := i2 f' r' m' hg
  simp only [hemp]
  by_cases h0 : s.size = 0
  ·
   rw [if_pos (by simpa using h0)]
   constructor
   ·
    intro h; exact absurd h (by decide)
   ·
    rintro ⟨h, _⟩; omega
  ·
   rw [if_neg (by simpa using h0)]
   by_cases hm : m' = (s.size : Int)
   ·
    rw [if_pos hm]
    exact ⟨fun _ => ⟨by omega, j2 (by omega)⟩, fun _ => rfl⟩
   ·
    rw [if_neg hm]
    constructor
    ·
     intro h
     exfalso
     split at h
     ·
      exact absurd h (by decide)
     ·
      split at h
      ·
       exact absurd h (by decide)
      ·
       exact absurd h (by decide)
    ·
     rintro ⟨_, h⟩
     obtain ⟨f'', r'', e⟩ := i1 h
     rw [hg] at e
     simp only [Option.some.injEq, Prod.mk.injEq] at e
     omega
theorem class_256 : ∀ n : Fin 256, r1_Class.f 40 (n.val : Int) = some (classN (n.val : Int)) ∧ chars_Class.f (n.val : Int) = some (classN (n.val : Int)) := by decide +kernel
theorem class_ref (k : Nat) (hk : 40 ≤ k) (b : UInt8) : r1_Class.f k (b.toNat : Int) = some (classN (b.toNat : Int)) :=
 at_rounds (g := fun k => r1_Class.f k (b.toNat : Int)) (fun k => r1_Class.mono _ k) hk (class_256 ⟨b.toNat, b.toNat_lt⟩).1
theorem class_check (b : UInt8) : chars_Class.f (b.toNat : Int) = some (classN (b.toNat : Int)) := (class_256 ⟨b.toNat, b.toNat_lt⟩).2
end Go.Proofs.YtbpbniemjjhecaaGreat.PureC
end
section
namespace Go.Proofs.YtbpbniemjjhecaaGreat.PureC
open Go.RowKit Go.Proofs.YtbpbniemjjhecaaGreat.PChk Go.Proofs.YtbpbniemjjhecaaGreat.G Go.Proofs.YtbpbniemjjhecaaGreatW.PrintWords Go.Proofs.YtbpbniemjjhecaaGreatW.PrintLast
set_option linter.unusedSimpArgs false
theorem list_len (s : ByteArray) : s.data.toList.length = s.size := by rw [Array.length_toList]; rfl
theorem drop_byte (s : ByteArray) (i : Nat) (h : i < s.size) : s.data.toList.drop i = s[i] :: s.data.toList.drop (i + 1) := List.drop_eq_getElem_cons (by rw [list_len]; exact h)
def cellsB (l : List UInt8) : Bool := l.all fun b => decide (1 ≤ b.toNat ∧ b.toNat ≤ 63)
def printB (s : ByteArray) : Bool := decide (1 ≤ s.size ∧ s.size ≤ 4) && cellsB s.data.toList
theorem dots_256 : ∀ n : Fin 256, (match cell_Dots.f 20 (n.val : Int) with
  | some t => decide (t.size ≤ 6)
  | none => false) = true ∧ cell_may.f (n.val : Int) = some (decide (n.val ≤ 63)) := by decide +kernel
theorem dots_check (k : Nat) (hk : 20 ≤ k) (b : UInt8) : ∃ t, cell_Dots.f k (b.toNat : Int) = some t ∧ t.size ≤ 6 := by
 have h := (dots_256 ⟨b.toNat, b.toNat_lt⟩).1
 split at h
 ·
  next t ht => exact ⟨t, at_rounds (g := fun k => cell_Dots.f k (b.toNat : Int)) (fun k => cell_Dots.mono _ k) hk ht, by simpa using h⟩
 ·
  cases h
theorem join_some (l : List ByteArray) (h4 : l.length ≤ 4) (h6 : ∀ t ∈ l, t.size ≤ 6) : ∃ t, strings_Join.f l ⟨#[45]⟩ = some t := by
 unfold strings_Join.f
 have hl : ∀ (xs : List (List UInt8)) (sep : List UInt8), (Lib.joinTail sep xs).length ≤ (xs.map (fun x => x.length + sep.length)).sum := by
  intro xs sep
  induction xs with
  | nil => exact Nat.le_refl _
  | cons x xs ih =>
   unfold Lib.joinTail at ih ⊢
   simp only [List.map_cons, List.flatten_cons, List.length_append, List.sum_cons]
   omega
 have hs : ∀ l : List ByteArray, (∀ t ∈ l, t.size ≤ 6) → ((l.map (·.data.toList)).map (fun x => x.length + [(45 : UInt8)].length)).sum ≤ 7 * l.length := by
  intro l
  induction l with
  | nil => intro _; exact Nat.le_refl _
  | cons x l ih =>
   intro h
   have h1 := ih (fun t ht => h t (List.mem_cons_of_mem _ ht))
   have h2 := h x List.mem_cons_self
   have h3 := list_len x
   simp only [List.map_cons, List.sum_cons, List.length_cons, List.length_nil] at h1 ⊢
   omega
 rw [if_pos]
 ·
  exact ⟨_, rfl⟩
 ·
  refine ⟨by omega, ?_⟩
  cases l with
  | nil => simp [Lib.join_nil]
  | cons x l =>
   rw [List.map_cons, Lib.join_cons, List.length_append]
   have h1 := hl (l.map (·.data.toList)) [45]
   have h2 := hs l (fun t ht => h6 t (List.mem_cons_of_mem _ ht))
   have h3 := h6 x List.mem_cons_self
   have h4' := list_len x
   simp only [List.length_cons] at h4
   show _ + (Lib.joinTail [45] _).length ≤ _
   omega
theorem print_go (s : ByteArray) (hs : s.size ≤ 100000) : ∀ (n k i : Nat) (acc : List ByteArray), i + n = s.size → n + 21 ≤ k → acc.length = i → (∀ t ∈ acc, t.size ≤ 6) →
  ∃ t e, cell_Print.l0 k s acc (s.size : Int) (i : Int) = some (t, e) ∧ (e = 0 ↔ (cellsB (s.data.toList.drop i) = true ∧ 1 ≤ s.size ∧ s.size ≤ 4))
 | 0, k, i, acc, hi, hk, ha, h6 => by
  obtain ⟨k, rfl⟩ : ∃ m, k = m + 1 := ⟨k - 1, by omega⟩
  have hnil : s.data.toList.drop i = [] := List.drop_of_length_le (by rw [list_len]; omega)
  rw [cell_Print.l0, if_neg (by omega), hnil]
  by_cases h0 : (acc.length : Int) = 0
  ·
   exact ⟨_, _, by rw [if_pos h0], by constructor; (intro h; cases h); (rintro ⟨_, _, _⟩; omega)⟩
  ·
   by_cases h4 : (acc.length : Int) > 4
   ·
    exact ⟨_, _, by rw [if_neg h0, if_pos h4], by constructor; (intro h; cases h); (rintro ⟨_, _, _⟩; omega)⟩
   ·
    obtain ⟨t, ht⟩ := join_some acc (by omega) h6
    exact ⟨t, 0, by rw [if_neg h0, if_neg h4, ht]; rfl, ⟨fun _ => ⟨rfl, by omega, by omega⟩, fun _ => rfl⟩⟩
 | n + 1, k, i, acc, hi, hk, ha, h6 => by
  obtain ⟨k, rfl⟩ : ∃ m, k = m + 1 := ⟨k - 1, by omega⟩
  have hlt : i < s.size := by omega
  have hm := (dots_256 ⟨s[i].toNat, s[i].toNat_lt⟩).2
  simp only at hm
  rw [cell_Print.l0, if_pos (by omega), if_pos (by omega), if_pos (by omega), bt_of s i hlt, hm, Option.bind_some, drop_byte s i hlt]
  have hc : cellsB (s[i] :: s.data.toList.drop (i + 1)) = (decide (1 ≤ s[i].toNat ∧ s[i].toNat ≤ 63) && cellsB (s.data.toList.drop (i + 1))) := rfl
  rw [hc]
  by_cases h1 : s[i].toNat ≤ 63
  ·
   rw [if_pos (by simpa using h1)]
   by_cases h0 : (s[i].toNat : Int) = 0
   ·
    exact ⟨_, _, by rw [if_pos h0], by constructor; (intro h; cases h); (rintro ⟨h, _⟩; rw [Bool.and_eq_true, decide_eq_true_eq] at h; omega)⟩
   ·
    obtain ⟨t, ht, ht6⟩ := dots_check k (by omega) s[i]
    obtain ⟨t', e, h, he⟩ := print_go s hs n k (i + 1) (acc ++ [t]) (by omega) (by omega) (by rw [List.length_append, ha]; rfl) (fun u hu => by
     rcases List.mem_append.1 hu with h | h
     ·
      exact h6 u h
     ·
      rw [List.mem_singleton.1 h]; exact ht6)
    refine ⟨t', e, ?_, ?_⟩
    ·
     rw [if_neg h0, ht, Option.bind_some, if_pos (by omega), wrap_of (by omega) (by omega), show ((i : Int) + 1) = ((i + 1 : Nat) : Int) from by omega, h]
    ·
     rw [he, Bool.and_eq_true, decide_eq_true_eq]
     constructor
     ·
      rintro ⟨a, b⟩; exact ⟨⟨⟨by omega, h1⟩, a⟩, b⟩
     ·
      rintro ⟨⟨_, a⟩, b⟩; exact ⟨a, b⟩
  ·
   exact ⟨_, _, by rw [if_neg (by simpa using h1)], by constructor; (intro h; cases h); (rintro ⟨h, _⟩; rw [Bool.and_eq_true, decide_eq_true_eq] at h; omega)⟩
theorem print_check (s : ByteArray) (hs : s.size ≤ 100000) (k : Nat) (hk : s.size + 21 ≤ k) : ∃ t e, cell_Print.f k s = some (t, e) ∧ (e == 0) = printB s := by
 obtain ⟨t, e, h, he⟩ := print_go s hs s.size k 0 [] (by omega) hk rfl (by intro t ht; cases ht)
 refine ⟨t, e, h, ?_⟩
 unfold printB
 rw [Bool.eq_iff_iff, beq_iff_eq, he, List.drop_zero, Bool.and_eq_true, decide_eq_true_eq]
 exact ⟨fun ⟨a, b⟩ => ⟨b, a⟩, fun ⟨a, b⟩ => ⟨b, a⟩⟩
end Go.Proofs.YtbpbniemjjhecaaGreat.PureC
end
section
namespace Go.Proofs.YtbpbniemjjhecaaGreat.PureC
open Go.RowKit Go.Proofs.YtbpbniemjjhecaaGreat.PChk Go.Proofs.YtbpbniemjjhecaaGreat.G Go.Proofs.YtbpbniemjjhecaaGreatW.PrintWords Go.Proofs.YtbpbniemjjhecaaGreatW.PrintLast
set_option linter.unusedSimpArgs false
def namesL : List ByteArray := [⟨#[99, 97, 112]⟩, ⟨#[99, 97, 112, 115]⟩, ⟨#[110, 117, 109]⟩, ⟨#[108, 101, 116]⟩, ⟨#[101, 43]⟩, ⟨#[101, 45]⟩, ⟨#[115, 43]⟩, ⟨#[115, 45]⟩, ⟨#[110, 43]⟩, ⟨#[110, 45]⟩, ⟨#[98, 108, 107]⟩, ⟨#[99, 111, 110, 116]⟩, ⟨#[105, 110, 100]⟩]
theorem names_check : rules_Names.f = some namesL := rfl
theorem rd_at (l : List ByteArray) (i : Nat) (h : i < l.length) : rdOf ByteArray.empty l (i : Int) = l[i] := by
 unfold rdOf
 rw [show ((i : Int)).toNat = i from by omega, List.getD_eq_getElem?_getD, List.getElem?_eq_getElem h]
 rfl
def memB (l : List ByteArray) (a : ByteArray) : Bool := l.any fun t => a.toList == t.toList
theorem index_go (l : List ByteArray) (a : ByteArray) (hl : l.length ≤ 100000) : ∀ (n k i : Nat), i + n = l.length → n + 1 ≤ k → ∃ r, slices_Index_string_string.l0 k l a (l.length : Int) (i : Int) = some r ∧ decide (r ≥ 0) = memB (l.drop i) a
 | 0, k, i, hi, hk => by
  obtain ⟨k, rfl⟩ : ∃ m, k = m + 1 := ⟨k - 1, by omega⟩
  rw [slices_Index_string_string.l0, if_neg (by omega), List.drop_of_length_le (by omega)]
  exact ⟨-1, rfl, rfl⟩
 | n + 1, k, i, hi, hk => by
  obtain ⟨k, rfl⟩ : ∃ m, k = m + 1 := ⟨k - 1, by omega⟩
  have hlt : i < l.length := by omega
  have hd : l.drop i = l[i] :: l.drop (i + 1) := List.drop_eq_getElem_cons hlt
  rw [slices_Index_string_string.l0, if_pos (by omega), if_pos (by omega), if_pos (by omega), rd_at l i hlt, hd]
  unfold memB
  rw [List.any_cons]
  by_cases h : a.toList = l[i].toList
  ·
   exact ⟨(i : Int), by rw [if_pos h], by rw [beq_iff_eq.2 h, Bool.true_or]; exact decide_eq_true (by omega)⟩
  ·
   obtain ⟨r, h1, h2⟩ := index_go l a hl n k (i + 1) (by omega) (by omega)
   exact ⟨r, by rw [if_neg h, wrap_of (by omega) (by omega), show ((i : Int) + 1) = ((i + 1 : Nat) : Int) from by omega, h1], by rw [beq_eq_false_iff_ne.2 h, Bool.false_or]; exact h2⟩
theorem contains_names (a : ByteArray) (k : Nat) (hk : 20 ≤ k) : slices_Contains_string_string.f k namesL a = some (memB namesL a) := by
 obtain ⟨r, h1, h2⟩ := index_go namesL a (by decide) 13 k 0 (by decide) (by omega)
 unfold slices_Contains_string_string.f slices_Index_string_string.f
 rw [show ((0 : Nat) : Int) = 0 from rfl] at h1
 rw [h1, Option.bind_some, h2]
 rfl
def leftB (what : Int) (s : ByteArray) : Bool := if what = 6 then s.size == 1 && classN (bt s 0) == 4 else if what = 7 then s.size == 1 && classN (bt s 0) == 3 else if what = 8 then memB namesL s else decide (0 < s.size ∧ s.size ≤ 12) && smallB s
theorem class_at (s : ByteArray) (h : 0 < s.size) (k : Nat) (hk : 40 ≤ k) : chars_Class.f (bt s 0) = some (classN (bt s 0)) ∧ r1_Class.f k (bt s 0) = some (classN (bt s 0)) := by
 have e := bt_of s 0 h
 rw [show ((0 : Nat) : Int) = 0 from rfl] at e
 rw [e]
 exact ⟨class_check _, class_ref k hk _⟩
theorem left_check (what : Int) (h1 : 1 ≤ what) (h8 : what ≤ 8) (s : ByteArray) (hs : s.size ≤ 100000) (k : Nat) (hk : 20 ≤ k) : rules_left.f k what s = some (leftB what s) := by
 unfold rules_left.f leftB
 by_cases h6 : what = 6
 ·
  rw [if_pos h6, if_pos h6]
  by_cases hz : (s.size : Int) = 1
  ·
   rw [if_pos hz, if_pos (by omega), (class_at s (by omega) 40 (by omega)).1, show (s.size == 1) = true from beq_iff_eq.2 (by omega)]; rfl
  ·
   rw [if_neg hz, show (s.size == 1) = false from beq_eq_false_iff_ne.2 (by omega)]; rfl
 ·
  rw [if_neg h6, if_neg h6]
  by_cases h7 : what = 7
  ·
   rw [if_pos h7, if_pos h7]
   by_cases hz : (s.size : Int) = 1
   ·
    rw [if_pos hz, if_pos (by omega), (class_at s (by omega) 40 (by omega)).1, show (s.size == 1) = true from beq_iff_eq.2 (by omega)]; rfl
   ·
    rw [if_neg hz, show (s.size == 1) = false from beq_eq_false_iff_ne.2 (by omega)]; rfl
  ·
   rw [if_neg h7, if_neg h7]
   by_cases h8' : what = 8
   ·
    rw [if_pos h8', if_pos h8', names_check, Option.bind_some, contains_names s k hk]; rfl
   ·
    rw [if_neg h8', if_neg h8']
    have hl : rules_letters.f what = some true := by
     unfold rules_letters.f
     rw [if_pos (by omega), decide_eq_true (by omega)]
    rw [hl, Option.bind_some, if_pos rfl]
    by_cases hz : (s.size : Int) ≤ 12
    ·
     have hcase : chars_Case.f s = some (caseF s) := by unfold chars_Case.f; rw [if_pos (by omega)]
     rw [if_pos hz, hcase, Option.bind_some, case_small s (by omega)]
     congr 2
     rw [decide_eq_decide]
     omega
    ·
     rw [if_neg hz, decide_eq_false (by omega)]; rfl
def mayB (x : S50) : Bool := decide (1 ≤ x.f0 ∧ x.f0 ≤ 8) && leftB x.f0 x.f1 && printB x.f2 && (if x.f0 ≤ 5 then decide (0 ≤ x.f3 ∧ x.f3 ≤ 99) else x.f3 == 0)
theorem may_check (x : S50) (k : Nat) (h1 : x.f1.size ≤ 100000) (h2 : x.f2.size ≤ 100000) (hk : x.f2.size + 30 ≤ k) : rules_May.f k x.f0 x.f1 x.f2 x.f3 x.f4 = some (mayB x) := by
 obtain ⟨k, rfl⟩ : ∃ m, k = m + 1 := ⟨k - 1, by omega⟩
 obtain ⟨t, e, hp, he⟩ := print_check x.f2 h2 (k + 1) (by omega)
 unfold rules_May.f mayB
 rw [hp, Option.bind_some]
 by_cases hlo : x.f0 < 1
 ·
  rw [if_pos hlo, rules_May.j0, if_pos rfl, decide_eq_false (by omega)]; rfl
 ·
  rw [if_neg hlo]
  by_cases hhi : x.f0 > 8
  ·
   rw [if_pos hhi, rules_May.j0, if_pos rfl, decide_eq_false (by omega)]; rfl
  ·
   rw [if_neg hhi, left_check x.f0 (by omega) (by omega) x.f1 h1 (k + 1) (by omega), Option.bind_some, decide_eq_true (by omega : 1 ≤ x.f0 ∧ x.f0 ≤ 8), Bool.true_and]
   have hlet : rules_letters.f x.f0 = some (decide (x.f0 ≤ 5)) := by
    unfold rules_letters.f
    rw [if_pos (by omega)]
   by_cases hl : leftB x.f0 x.f1 = true
   ·
    rw [if_pos hl, hl, Bool.true_and, rules_May.j0]
    by_cases h0 : e = 0
    ·
     rw [← he, h0, if_neg (by simp), hlet, Option.bind_some]
     by_cases h5 : x.f0 ≤ 5
     ·
      rw [if_pos (by simpa using h5), if_pos h5]
      by_cases h3 : x.f3 ≥ 0
      ·
       rw [if_pos h3]
       simp only [beq_self_eq_true, Bool.true_and, Option.some.injEq, decide_eq_decide]
       omega
      ·
       rw [if_neg h3, decide_eq_false (by omega)]; rfl
     ·
      rw [if_neg (by simpa using h5), if_neg h5]; rfl
    ·
     rw [← he, if_pos (by simpa using h0), beq_eq_false_iff_ne.2 h0]; rfl
   ·
    rw [if_neg hl, rules_May.j0, if_pos rfl, Bool.eq_false_iff.2 hl]; rfl
def capN (x : S50) : Nat := if x.f0 = 8 ∧ (x.f1.toList = [110, 117, 109] ∨ x.f1.toList = [108, 101, 116]) then 2 else 4
theorem cap_two (x : S50) (h : x.f0 = 8 ∧ (x.f1.toList = [110, 117, 109] ∨ x.f1.toList = [108, 101, 116])) : capN x = 2 := if_pos h
theorem cap_four (x : S50) (h : ¬ (x.f0 = 8 ∧ (x.f1.toList = [110, 117, 109] ∨ x.f1.toList = [108, 101, 116]))) : capN x = 4 := if_neg h
def mostN (x : S50) : Nat := if keptB x = true ∨ x.f0 = 7 ∨ (x.f0 = 1 ∧ x.f1.size = 1) then 1 else capN x
def aloneB (x : S50) : Bool := mayB x && decide (x.f2.size ≤ mostN x)
theorem most_check (x : S50) (k : Nat) (hk : 1 ≤ k) : check_most.f k x.f0 x.f1 x.f2 x.f3 x.f4 = some (mostN x : Int) := by
 obtain ⟨k, rfl⟩ : ∃ m, k = m + 1 := ⟨k - 1, by omega⟩
 unfold check_most.f mostN
 rw [kept_check, Option.bind_some]
 have hj : check_most.j0 (k + 1) false x.f0 x.f1 x.f2 x.f3 x.f4 = some (capN x : Int) := by
  rw [check_most.j0, if_neg (by decide)]
  by_cases h8 : x.f0 = 8
  ·
   rw [if_pos h8]
   by_cases hn : x.f1.toList = [110, 117, 109]
   ·
    rw [if_pos hn, cap_two x ⟨h8, Or.inl hn⟩]; rfl
   ·
    rw [if_neg hn]
    by_cases hle : x.f1.toList = [108, 101, 116]
    ·
     rw [if_pos hle, cap_two x ⟨h8, Or.inr hle⟩]; rfl
    ·
     rw [if_neg hle, cap_four x (by rintro ⟨_, h | h⟩; exact hn h; exact hle h)]; rfl
  ·
   rw [if_neg h8, cap_four x (fun h => h8 h.1)]; rfl
 have ht : check_most.j0 (k + 1) true x.f0 x.f1 x.f2 x.f3 x.f4 = some 1 := by rw [check_most.j0, if_pos rfl]
 by_cases hkp : keptB x = true
 ·
  rw [if_pos hkp, ht, if_pos (Or.inl hkp)]; rfl
 ·
  rw [if_neg hkp]
  by_cases h7 : x.f0 = 7
  ·
   rw [if_pos h7, ht, if_pos (Or.inr (Or.inl h7))]; rfl
  ·
   rw [if_neg h7]
   by_cases h1 : x.f0 = 1
   ·
    rw [if_pos h1]
    by_cases hz : x.f1.size = 1
    ·
     rw [show ((x.f1.size : Int) == 1) = true from beq_iff_eq.2 (by omega), ht, if_pos (Or.inr (Or.inr ⟨h1, hz⟩))]; rfl
    ·
     rw [show ((x.f1.size : Int) == 1) = false from beq_eq_false_iff_ne.2 (by omega), hj, if_neg (fun h => h.elim hkp (fun h => h.elim h7 (fun h => hz h.2)))]
   ·
    rw [if_neg h1, hj, if_neg (fun h => h.elim hkp (fun h => h.elim h7 (fun h => h1 h.1)))]
theorem alone_check (x : S50) (k : Nat) (h1 : x.f1.size ≤ 100000) (h2 : x.f2.size ≤ 100000) (hk : x.f2.size + 30 ≤ k) : check_Alone.f k x.f0 x.f1 x.f2 x.f3 x.f4 = some (aloneB x) := by
 unfold check_Alone.f aloneB
 rw [may_check x k h1 h2 hk, Option.bind_some]
 by_cases hm : mayB x = true
 ·
  rw [if_pos hm, most_check x k (by omega), Option.bind_some, hm, Bool.true_and]
  congr 1
  rw [decide_eq_decide]
  omega
 ·
  rw [if_neg hm, Bool.eq_false_iff.2 hm, Bool.false_and]
theorem print_pos (s : ByteArray) (h : printB s = true) : 1 ≤ s.size ∧ s.size ≤ 4 := by
 unfold printB at h
 rw [Bool.and_eq_true, decide_eq_true_eq] at h
 exact h.1
end Go.Proofs.YtbpbniemjjhecaaGreat.PureC
end
