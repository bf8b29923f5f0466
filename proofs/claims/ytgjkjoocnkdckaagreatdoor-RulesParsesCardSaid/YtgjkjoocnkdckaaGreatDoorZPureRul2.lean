import Derived.Test.YtgjkjoocnkdckaaGreatDoorZPureRul1
namespace Go.Proofs.YtgjkjoocnkdckaaGreatDoor.PureC
open Go.RowKit Go.Proofs.YtgjkjoocnkdckaaGreatDoor.PChk Go.Proofs.YtgjkjoocnkdckaaGreatDoor.G Go.Proofs.YtgjkjoocnkdckaaGreatDoorW.PrintWords Go.Proofs.YtgjkjoocnkdckaaGreatDoorW.PrintLast
set_option linter.unusedSimpArgs false
theorem parts_lastb (b : UInt8) (s : ByteArray) (a : Nat) (h : ∀ x ∈ s.data.toList.drop a, x ≠ b) : parts b (s.extract a s.size) = [s.extract a s.size] := by
  unfold parts
  rw [Lib.extract_to_end, splitOn_no b _ h]
  simp only [List.map_cons, List.map_nil]
  congr 1
  apply text_eq
  rw [mk_data, Lib.extract_to_end]
theorem parts_nextb (b : UInt8) (s : ByteArray) (a i : Nat) (ha : a ≤ i) (hi : i < s.size) (h : ∀ x ∈ (s.data.toList.drop a).take (i - a), x ≠ b) (hb : s[i] = b) :
    parts b (s.extract a s.size) = s.extract a i :: parts b (s.extract (i + 1) s.size) := by
  have e : s.data.toList.drop a = (s.data.toList.drop a).take (i - a) ++ b :: s.data.toList.drop (i + 1) := by
    have h1 := List.take_append_drop (i - a) (s.data.toList.drop a)
    rw [List.drop_drop, show a + (i - a) = i from by omega, drop_at s i hi, hb] at h1
    exact h1.symm
  unfold parts
  rw [Lib.extract_to_end, Lib.extract_to_end, e, splitOn_cut b _ _ h, List.map_cons]
  congr 1
  apply text_eq
  rw [mk_data, Lib.extract_data]
theorem no_more (b : UInt8) (s : ByteArray) (a i : Nat) (ha : a ≤ i) (hi : i < s.size) (h : ∀ x ∈ (s.data.toList.drop a).take (i - a), x ≠ b) (hb : s[i] ≠ b) : ∀ x ∈ (s.data.toList.drop a).take (i + 1 - a), x ≠ b := by
  intro x hx
  rw [show i + 1 - a = (i - a) + 1 from by omega, List.take_add_one, List.mem_append] at hx
  rcases hx with hx | hx
  · exact h x hx
  · rw [List.getElem?_drop, show a + (i - a) = i from by omega] at hx
    have e : s.data.toList[i]? = some s[i] := by rw [List.getElem?_eq_getElem (by simpa using hi)]; rfl
    rw [e] at hx
    simp at hx
    rw [hx]
    exact hb
theorem fields_go (s : ByteArray) (hs : s.size ≤ 100000) : ∀ (n k i a : Nat) (acc : List ByteArray), i + n = s.size → a ≤ i → (∀ x ∈ (s.data.toList.drop a).take (i - a), x ≠ 32) → acc.length ≤ i → n + 3 ≤ k →
    r8_fields.l0 k s acc (a : Int) (i : Int) = some (acc ++ parts 32 (s.extract a s.size))
  | 0, k, i, a, acc, hi, ha, hno, hl, hk => by
    obtain ⟨k, rfl⟩ : ∃ m, k = m + 2 := ⟨k - 2, by omega⟩
    have hi' : i = s.size := by omega
    subst hi'
    rw [r8_fields.l0, if_pos (by omega), if_pos rfl, if_pos (by omega), if_pos (by omega), if_pos (by omega), wrap_of (x := (s.size : Int) + 1) (by omega) (by omega), r8_fields.l0, if_neg (by omega)]
    rw [parts_lastb 32 s a (by rw [List.take_of_length_le (by rw [List.length_drop, list_len]; omega)] at hno; exact hno)]
    rfl
  | n + 1, k, i, a, acc, hi, ha, hno, hl, hk => by
    obtain ⟨k, rfl⟩ : ∃ m, k = m + 1 := ⟨k - 1, by omega⟩
    have hlt : i < s.size := by omega
    rw [r8_fields.l0, if_pos (by omega), if_neg (by omega), if_pos (by omega), if_pos (by omega), bt_of s i hlt]
    by_cases h32 : s[i] = 32
    · rw [if_pos (by rw [h32]; rfl), if_pos (by omega), if_pos (by omega), if_pos (by omega), wrap_of (x := (i : Int) + 1) (by omega) (by omega), show ((i : Int) + 1) = ((i + 1 : Nat) : Int) from by omega]
      rw [fields_go s hs n k (i + 1) (i + 1) _ (by omega) (by omega) (by simp) (by rw [List.length_append, List.length_singleton]; omega) (by omega), parts_nextb 32 s a i ha hlt hno h32, List.append_assoc]
      rfl
    · rw [if_neg (fun h => h32 (UInt8.toNat_inj.1 (by show s[i].toNat = 32; omega))), wrap_of (x := (i : Int) + 1) (by omega) (by omega), show ((i : Int) + 1) = ((i + 1 : Nat) : Int) from by omega]
      exact fields_go s hs n k (i + 1) a acc (by omega) (by omega) (no_more 32 s a i ha hlt hno h32) (by omega) (by omega)
theorem fields_same (s : ByteArray) (hs : s.size ≤ 100000) (k : Nat) (hk : s.size + 3 ≤ k) : r8_fields.f k s = some (parts 32 s) := by
  have h := fields_go s hs s.size k 0 0 [] (by omega) (by omega) (by simp) (by simp) hk
  have e : s.extract 0 s.size = s := by simp
  rw [e] at h
  exact h
theorem bt_list (s : ByteArray) (l : List UInt8) (i : Nat) (c : UInt8) (h : s.data.toList = l) (hc : l[i]? = some c) : bt s (i : Int) = (c.toNat : Int) := by
  have hi : i < s.size := by
    have h1 := (List.getElem?_eq_some_iff.1 hc).1
    rw [← h, list_len] at h1
    exact h1
  rw [bt_of s i hi]
  rw [← h] at hc
  have e : s.data.toList[i]? = some s[i] := by rw [List.getElem?_eq_getElem (by rw [list_len]; exact hi)]; rfl
  rw [e] at hc
  rw [Option.some.inj hc]
theorem isD_iff (a : UInt8) : isD a = true ↔ 48 ≤ a.toNat ∧ a.toNat ≤ 57 := by
  unfold isD
  simp only [Bool.and_eq_true, decide_eq_true_eq, UInt8.le_iff_toNat_le]
  exact Iff.rfl
theorem digits_same (s : ByteArray) (k : Nat) (hk : 1 ≤ k) : r8_digits.f k s = some (if (numF s).2 = true then (numF s).1 else -1) := by
  obtain ⟨k, rfl⟩ : ∃ m, k = m + 1 := ⟨k - 1, by omega⟩
  unfold r8_digits.f
  rcases num_cases s with ⟨h2, h3⟩ | ⟨h2, h3⟩ | ⟨a, h2, h3⟩ | ⟨a, b, h2, h3⟩
  · rw [h3, if_neg (by omega), r8_digits.j0, if_neg (by decide), if_neg (by omega)]
    rfl
  · rw [h3, if_neg (by omega), r8_digits.j0, if_neg (by decide), if_neg (by omega)]
    rfl
  · have e : numF s = if isD a = true then ((a.toNat : Int) - 48, true) else (0, false) := by unfold numF; rw [h2]
    have hb : bt s 0 = (a.toNat : Int) := bt_list s _ 0 a h2 rfl
    have hlt := a.toNat_lt
    rw [if_pos (by omega), if_pos (by omega), hb, e]
    by_cases hd : isD a = true
    · have hd' := (isD_iff a).1 hd
      rw [if_pos (by omega), decide_eq_true (by omega), r8_digits.j0, if_pos rfl, if_pos (by omega), hb, if_pos hd, if_pos rfl]
      congr 1
      show ((a.toNat : Int) - 48) % 256 = (a.toNat : Int) - 48
      omega
    · have hd' : ¬ (48 ≤ a.toNat ∧ a.toNat ≤ 57) := fun h => hd ((isD_iff a).2 h)
      have hj : r8_digits.j0 (k + 1) s false = some (-1) := by rw [r8_digits.j0, if_neg (by decide), if_neg (by omega)]
      rw [if_neg hd]
      by_cases h48 : (a.toNat : Int) ≥ 48
      · rw [if_pos h48, decide_eq_false (by omega), hj]; rfl
      · rw [if_neg h48, hj]; rfl
  · have e : numF s = if isD a = true ∧ isD b = true ∧ a ≠ 48 then (((a.toNat : Int) - 48) * 10 + ((b.toNat : Int) - 48), true) else (0, false) := by unfold numF; rw [h2]
    have hb0 : bt s 0 = (a.toNat : Int) := bt_list s _ 0 a h2 rfl
    have hb1 : bt s 1 = (b.toNat : Int) := bt_list s _ 1 b h2 rfl
    have hlt := a.toNat_lt
    have hlt2 := b.toNat_lt
    have h48 : a = 48 ↔ a.toNat = 48 := ⟨fun h => by rw [h]; rfl, fun h => UInt8.toNat_inj.1 h⟩
    rw [if_neg (by omega), r8_digits.j0, if_neg (by decide), if_pos (by omega), if_pos (by omega), hb0, hb1, e]
    by_cases hd : isD a = true ∧ isD b = true ∧ a ≠ 48
    · have h1 := (isD_iff a).1 hd.1
      have h2 := (isD_iff b).1 hd.2.1
      have h4 : a.toNat ≠ 48 := fun h => hd.2.2 (h48.2 h)
      rw [if_pos hd, if_pos (by omega), if_pos (by omega), if_pos (by omega), if_pos (by omega), if_pos (by omega), if_pos rfl]
      congr 1
      show 10 * (((a.toNat : Int) - 48) % 256) + (((b.toNat : Int) - 48) % 256) = ((a.toNat : Int) - 48) * 10 + ((b.toNat : Int) - 48)
      omega
    · rw [if_neg hd]
      have hn : ¬ (49 ≤ a.toNat ∧ a.toNat ≤ 57 ∧ 48 ≤ b.toNat ∧ b.toNat ≤ 57) := fun h => hd ⟨(isD_iff a).2 (by omega), (isD_iff b).2 (by omega), fun h5 => by have := h48.1 h5; omega⟩
      show _ = some (-1)
      repeat' split
      all_goals first | rfl | (exfalso; omega)
end Go.Proofs.YtgjkjoocnkdckaaGreatDoor.PureC
