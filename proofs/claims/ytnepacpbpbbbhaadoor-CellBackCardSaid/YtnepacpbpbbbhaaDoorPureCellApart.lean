/- The pure statement of CellApart: two bytes' signs and dots are the same just if the bytes are, of cells; the dots of both, put together, count as both, where they share none. -/
import Derived.Test.YtnepacpbpbbbhaaDoorPureCellOf
import Derived.Test.YtnepacpbpbbbhaaDoorPCell3
namespace Go.Proofs.YtnepacpbpbbbhaaDoor.Pure
open Go.RowKit Go.Proofs.YtnepacpbpbbbhaaDoor.PCell Go.Proofs.YtnepacpbpbbbhaaDoor.G Go.Proofs.YtnepacpbpbbbhaaDoorW.PrintWords Go.Proofs.YtnepacpbpbbbhaaDoorW.PrintLast

def oc (a : Int) : Int := Lib.onesCount (Go.bits .and .u8 a 63).toNat
theorem or_nat (a b : Nat) (ha : a < 256) (hb : b < 256) : Go.bits .or .u8 (a : Int) (b : Int) = ((a ||| b : Nat) : Int) :=
  (bits_nat .u8 8 (by decide) wraps_u8 a b ha hb).2
theorem and_nat (a b : Nat) (ha : a < 256) (hb : b < 256) : Go.bits .and .u8 (a : Int) (b : Int) = ((a &&& b : Nat) : Int) :=
  (bits_nat .u8 8 (by decide) wraps_u8 a b ha hb).1
theorem or_lt (a b : Nat) (ha : a < 256) (hb : b < 256) : (a ||| b) < 256 := Nat.or_lt_two_pow (n := 8) ha hb
theorem and_low (a : Nat) (ha : a < 256) : Go.bits .and .u8 (a : Int) 63 = ((a % 64 : Nat) : Int) := by
  have h := and_nat a 63 ha (by decide)
  have h2 : a &&& 63 = a % 64 := Nat.and_two_pow_sub_one_eq_mod a 6
  rw [h2] at h
  exact h
theorem or_low (a b : Nat) (ha : a < 256) (hb : b < 256) (h : Go.bits .and .u8 (a : Int) (b : Int) = 0) : (a % 64) &&& (b % 64) = 0 ∧ Go.bits .and .u8 (Go.bits .or .u8 (a : Int) (b : Int)) 63 = (((a % 64) ||| (b % 64) : Nat) : Int) := by
  rw [and_nat a b ha hb] at h
  constructor
  · have := Nat.and_mod_two_pow (a := a) (b := b) (n := 6)
    have h0 : a &&& b = 0 := by omega
    rw [h0] at this
    exact this.symm
  · rw [or_nat a b ha hb, and_low _ (or_lt a b ha hb)]
    have := Nat.or_mod_two_pow (a := a) (b := b) (n := 6)
    exact congrArg (fun n : Nat => (n : Int)) this
theorem ones_or : ∀ a b : Fin 64, a.val &&& b.val = 0 → Lib.onesCount (a.val ||| b.val) = Lib.onesCount a.val + Lib.onesCount b.val := by decide +kernel
theorem oc_or (a b : Nat) (ha : a < 256) (hb : b < 256) (h : Go.bits .and .u8 (a : Int) (b : Int) = 0) : oc (Go.bits .or .u8 (a : Int) (b : Int)) = oc (a : Int) + oc (b : Int) := by
  obtain ⟨h1, h2⟩ := or_low a b ha hb h
  have h3 := ones_or ⟨a % 64, by omega⟩ ⟨b % 64, by omega⟩ h1
  have e1 := and_low a ha
  have e2 := and_low b hb
  simp only at h3
  unfold oc
  rw [h2, e1, e2]
  simp only [Int.toNat_natCast]
  omega
theorem oc_le : ∀ a : Fin 256, 0 ≤ oc (a.val : Int) ∧ oc (a.val : Int) ≤ 8 := by decide +kernel
theorem ones_at (a : Nat) (ha : a < 256) : bits_OnesCount8.f (Go.bits .and .u8 (a : Int) 63) = some (oc a) := by
  have e := and_low a ha
  unfold bits_OnesCount8.f
  rw [if_pos (by rw [e]; omega), if_pos (by rw [e]; omega)]
  rfl
theorem bt_strs (xs : List Int) (n : Nat) (a : Nat) (h : xs[n]? = some (a : Int)) (ha : a < 256) : bt (strOfNums xs) (n : Int) = a := by
  obtain ⟨hl, hx⟩ := List.getElem?_eq_some_iff.1 h
  rw [bt_of _ n (by rw [strOfNums_size]; exact hl)]
  simp [strOfNums, ByteArray.getElem_eq_getElem_data, hx]
  omega
theorem count_step (k : Nat) (s : ByteArray) (acc : Int) (i a : Nat) (ha : a < 256) (hi : i < s.size) (hb : bt s (i : Int) = a) (h0 : 0 ≤ acc) (h1 : acc ≤ 1000000000) (hs : s.size ≤ 1000000000) :
    cell_Count.l0 (k + 1) s acc (s.size : Int) (i : Int) = cell_Count.l0 k s (acc + oc a) (s.size : Int) ((i + 1 : Nat) : Int) := by
  have hc := oc_le ⟨a, ha⟩
  simp only at hc
  rw [cell_Count.l0, if_pos (by omega), if_pos (by omega), if_pos (by omega), hb, ones_at a ha, Option.bind_some, wrap_of (x := acc + oc (a : Int)) (by omega) (by omega), wrap_of (x := (i : Int) + 1) (by omega) (by omega)]
  rfl
theorem count_end (k : Nat) (s : ByteArray) (acc : Int) : cell_Count.l0 (k + 1) s acc (s.size : Int) (s.size : Int) = some acc := by
  rw [cell_Count.l0, if_neg (by omega)]
theorem count_one (k a : Nat) (ha : a < 256) : cell_Count.f (k + 2) (strOfNums [(a : Int)]) = some (oc a) := by
  have hz : (strOfNums [(a : Int)]).size = 1 := strOfNums_size _
  have h := count_step (k + 1) (strOfNums [(a : Int)]) 0 0 a ha (by omega) (bt_strs _ 0 a rfl ha) (by omega) (by omega) (by omega)
  have h2 := count_end k (strOfNums [(a : Int)]) (0 + oc a)
  rw [hz] at h h2
  rw [cell_Count.f, hz]
  refine h.trans (h2.trans ?_)
  rw [Int.zero_add]
theorem count_two (k a b : Nat) (ha : a < 256) (hb : b < 256) : cell_Count.f (k + 3) (strOfNums [(a : Int), (b : Int)]) = some (oc a + oc b) := by
  have hz : (strOfNums [(a : Int), (b : Int)]).size = 2 := strOfNums_size _
  have hc := oc_le ⟨a, ha⟩
  simp only at hc
  have h := count_step (k + 2) (strOfNums [(a : Int), (b : Int)]) 0 0 a ha (by omega) (bt_strs _ 0 a rfl ha) (by omega) (by omega) (by omega)
  have h1 := count_step (k + 1) (strOfNums [(a : Int), (b : Int)]) (0 + oc a) 1 b hb (by omega) (bt_strs _ 1 b rfl hb) (by omega) (by omega) (by omega)
  have h2 := count_end k (strOfNums [(a : Int), (b : Int)]) (0 + oc a + oc b)
  rw [hz] at h h1 h2
  rw [cell_Count.f, hz]
  refine h.trans (h1.trans (h2.trans ?_))
  rw [Int.zero_add]
theorem sign_less : ∀ a : Fin 256, ∃ s, cell_Sign.f (a.val : Int) = some (s, decide (a.val < 64)) := by
  have h : ∀ a : Fin 256, (cell_Sign.f (a.val : Int)).map (·.2) = some (decide (a.val < 64)) := by decide +kernel
  intro a
  have h := h a
  obtain ⟨⟨s, b⟩, h1, h2⟩ := Option.map_eq_some_iff.1 h
  exact ⟨s, by rw [h1]; simp only at h2; rw [h2]⟩
theorem from_sign : ∀ a : Fin 64, (cell_Sign.f (a.val : Int)).bind (fun p => cell_From.f p.1) = some ((a.val : Int), true) := by decide +kernel
theorem of_dots : ∀ a : Fin 256, (cell_Dots.f 100 (Go.bits .and .u8 (a.val : Int) 63)).bind cell_Of.f = some (if a.val % 64 = 0 then (0, false) else (((a.val % 64 : Nat) : Int), true)) := by decide +kernel
theorem dots_at (k : Nat) (hk : 100 ≤ k) (c : Int) (d : ByteArray) (h : cell_Dots.f 100 c = some d) : cell_Dots.f k c = some d :=
  at_rounds (g := fun k => cell_Dots.f k c) (fun k => cell_Dots.mono _ k) hk h
theorem apart2 (k n m : Nat) (hk : 100 ≤ k) (hn : n < 256) (hm : m < 256) : styluslaw02_CellApart.j2 (k + 1) (n : Int) (m : Int) false = some true := by
  rw [styluslaw02_CellApart.j2, if_neg (by decide)]
  have hA := awake_at k hk
  by_cases h : Go.bits .and .u8 (n : Int) (m : Int) = 0
  · rw [if_pos h]
    obtain ⟨q, rfl⟩ : ∃ q, k = q + 3 := ⟨k - 3, by omega⟩
    rw [count_two q n m hn hm, or_nat n m hn hm, count_one (q + 1) _ (or_lt n m hn hm)]
    have := oc_or n m hn hm h
    rw [or_nat n m hn hm] at this
    simp only [Option.bind_some]
    rw [if_pos this, hA]
    rfl
  · rw [if_neg h, hA]
    rfl
theorem of_dots_at (k n : Nat) (hk : 100 ≤ k) (hn : n < 256) : ∃ d, cell_Dots.f k (Go.bits .and .u8 (n : Int) 63) = some d ∧ cell_Of.f d = some (if n % 64 = 0 then (0, false) else (((n % 64 : Nat) : Int), true)) := by
  have h := of_dots ⟨n, hn⟩
  simp only at h
  obtain ⟨d, h1, h2⟩ := Option.bind_eq_some_iff.1 h
  exact ⟨d, dots_at k hk _ d h1, h2⟩
theorem apart1 (k n m : Nat) (hk : 101 ≤ k) (hn : n < 256) (hm : m < 256) : styluslaw02_CellApart.j1 (k + 1) (n : Int) (m : Int) false = some true := by
  obtain ⟨k, rfl⟩ : ∃ q, k = q + 1 := ⟨k - 1, by omega⟩
  obtain ⟨d, h1, h2⟩ := of_dots_at (k + 1) n (by omega) hn
  rw [styluslaw02_CellApart.j1, if_neg (by decide), h1, Option.bind_some, h2, Option.bind_some, and_low n hn]
  by_cases h : n % 64 = 0
  · rw [if_pos h, if_neg (by rw [h]; simp), if_neg (by simp)]
    exact apart2 k n m (by omega) hn hm
  · rw [if_neg h, if_neg (by simp; omega), if_pos rfl]
    simp only [bne_self_eq_false]
    exact apart2 k n m (by omega) hn hm
theorem text_of_list {x y : ByteArray} (h : x.toList = y.toList) : x = y := by
  rw [ByteArray.toList_eq, ByteArray.toList_eq] at h
  exact ByteArray.ext (Array.toList_inj.1 h)
theorem CellApart : styluslaw02_CellApart.Pure := by
  intro a0 a1 hw0 hw1
  refine ⟨110, ?_⟩
  obtain ⟨n, hn, rfl⟩ := byte_of hw0
  obtain ⟨m, hm, rfl⟩ := byte_of hw1
  obtain ⟨s, hs⟩ := sign_less ⟨n, hn⟩
  obtain ⟨t, ht⟩ := sign_less ⟨m, hm⟩
  simp only at hs ht
  unfold styluslaw02_CellApart.f
  rw [hs, Option.bind_some, ht, Option.bind_some]
  have d1 : decide ((n : Int) < 64) = decide (n < 64) := by rw [Bool.eq_iff_iff]; simp; omega
  have d2 : decide ((m : Int) < 64) = decide (m < 64) := by rw [Bool.eq_iff_iff]; simp; omega
  simp only [d1, d2, bne_self_eq_false]
  rw [if_neg (by decide), styluslaw02_CellApart.j0, if_neg (by decide)]
  by_cases h1 : n < 64
  · rw [if_pos (by simpa using h1)]
    by_cases h2 : m < 64
    · rw [if_pos (by simpa using h2)]
      have f1 := from_sign ⟨n, h1⟩
      have f2 := from_sign ⟨m, h2⟩
      simp only at f1 f2
      rw [hs, Option.bind_some] at f1
      rw [ht, Option.bind_some] at f2
      have e1 : ((s == t) != ((n : Int) == (m : Int))) = false := by
        by_cases e : n = m
        · subst e
          rw [hs] at ht
          cases ht
          simp
        · have : s ≠ t := by
            rintro rfl
            rw [f1] at f2
            simp at f2
            exact e (by omega)
          have e3 : (n : Int) ≠ m := by omega
          rw [beq_eq_false_iff_ne.2 this, beq_eq_false_iff_ne.2 e3]
          rfl
      rw [if_neg (by rw [e1]; decide)]
      obtain ⟨x, x1, x2⟩ := of_dots_at 109 n (by omega) hn
      obtain ⟨y, y1, y2⟩ := of_dots_at 109 m (by omega) hm
      rw [and_low n hn, show n % 64 = n from by omega] at x1
      rw [and_low m hm, show m % 64 = m from by omega] at y1
      rw [x1, Option.bind_some, y1, Option.bind_some]
      have e2 : ((x.toList == y.toList) != ((n : Int) == (m : Int))) = false := by
        by_cases e : n = m
        · subst e
          rw [x1] at y1
          cases y1
          simp
        · have : x.toList ≠ y.toList := by
            intro hxy
            have hxy2 : x = y := text_of_list hxy
            subst hxy2
            rw [x2] at y2
            have h3 := Option.some.inj y2
            rw [show n % 64 = n from by omega, show m % 64 = m from by omega] at h3
            by_cases z1 : n = 0
            · rw [if_pos z1, if_neg (by omega)] at h3
              cases h3
            · by_cases z2 : m = 0
              · rw [if_neg z1, if_pos z2] at h3
                cases h3
              · rw [if_neg z1, if_neg z2] at h3
                simp at h3
                exact e (by omega)
          have e3 : (n : Int) ≠ m := by omega
          rw [beq_eq_false_iff_ne.2 this, beq_eq_false_iff_ne.2 e3]
          rfl
      rw [e2]
      exact apart1 108 n m (by omega) hn hm
    · rw [if_neg (by simpa using h2)]
      exact apart1 108 n m (by omega) hn hm
  · rw [if_neg (by simpa using h1)]
    exact apart1 108 n m (by omega) hn hm
end Go.Proofs.YtnepacpbpbbbhaaDoor.Pure
