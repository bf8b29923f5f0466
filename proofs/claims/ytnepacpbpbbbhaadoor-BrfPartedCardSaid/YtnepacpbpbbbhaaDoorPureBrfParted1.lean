/- Of two texts, one behind the other: what is read of them, as plain functions. -/
import Derived.Test.YtnepacpbpbbbhaaDoorPureBrfReads7
namespace Go.Proofs.YtnepacpbpbbbhaaDoor.PureB
open Go.RowKit Go.Proofs.YtnepacpbpbbbhaaDoor.PBrf Go.Proofs.YtnepacpbpbbbhaaDoor.G Go.Proofs.YtnepacpbpbbbhaaDoorW.PrintWords Go.Proofs.YtnepacpbpbbbhaaDoorW.PrintLast

theorem rd_step (fuel : Nat) (s : ByteArray) (pages : List (List ByteArray)) (page : List ByteArray) (a : Nat) : rd (fuel + 1) s pages page a =
    if h : a < s.size then
      if s[a] = 12 then rd fuel s (pages ++ [page]) [] (a + 1)
      else if (lineP (s.extract a (a + lineLen s a))).2.2 ≠ 0 then ([], (a : Int) + (lineP (s.extract a (a + lineLen s a))).2.1)
      else if a + lineLen s a = s.size ∨ bt s ((a + lineLen s a : Nat) : Int) = 12 then ([], ((a + lineLen s a : Nat) : Int))
      else rd fuel s pages (page ++ [(lineP (s.extract a (a + lineLen s a))).1]) (a + lineLen s a + 1)
    else if page.isEmpty = true then (pages, -1) else ([], (s.size : Int)) := rfl
theorem rd_more (s : ByteArray) (fuel : Nat) : ∀ (pages : List (List ByteArray)) (page : List ByteArray) (a : Nat), a ≤ s.size → s.size - a < fuel → rd (fuel + 1) s pages page a = rd fuel s pages page a := by
  induction fuel with
  | zero => intro pages page a h1 h2; omega
  | succ fuel ih =>
    intro pages page a h1 h2
    rw [rd_step (fuel + 1) s pages page a, rd_step fuel s pages page a]
    by_cases ha : a < s.size
    · rw [dif_pos ha, dif_pos ha]
      by_cases h12 : s[a] = 12
      · rw [if_pos h12, if_pos h12]
        exact ih _ _ (a + 1) (by omega) (by omega)
      · rw [if_neg h12, if_neg h12]
        have hll := lineLen_le s a h1
        by_cases he : (lineP (s.extract a (a + lineLen s a))).2.2 ≠ 0
        · rw [if_pos he, if_pos he]
        · rw [if_neg he, if_neg he]
          by_cases hb : a + lineLen s a = s.size ∨ bt s ((a + lineLen s a : Nat) : Int) = 12
          · rw [if_pos hb, if_pos hb]
          · rw [if_neg hb, if_neg hb]
            have hne : a + lineLen s a ≠ s.size := fun h => hb (.inl h)
            exact ih _ _ (a + lineLen s a + 1) (by omega) (by omega)
    · rw [dif_neg ha, dif_neg ha]
theorem rd_plus (s : ByteArray) (fuel : Nat) (pages : List (List ByteArray)) (page : List ByteArray) (a : Nat) (h1 : a ≤ s.size) (h2 : s.size - a < fuel) : ∀ d, rd (fuel + d) s pages page a = rd fuel s pages page a
  | 0 => rfl
  | d + 1 => (rd_more s (fuel + d) pages page a h1 (by omega)).trans (rd_plus s fuel pages page a h1 h2 d)
theorem rd_any (s : ByteArray) (f g : Nat) (pages : List (List ByteArray)) (page : List ByteArray) (a : Nat) (h1 : a ≤ s.size) (hf : s.size - a < f) (hg : s.size - a < g) : rd f s pages page a = rd g s pages page a := by
  have h3 := rd_plus s f pages page a h1 hf g
  have h4 := rd_plus s g pages page a h1 hg f
  rw [Nat.add_comm] at h4
  exact h3.symm.trans h4

/-! ### line ends of two texts -/
theorem any_cons (cs : List UInt8) (b : UInt8) (l : List UInt8) : Lib.indexAny (b :: l) cs = if cs.contains b = true then 0 else if Lib.indexAny l cs < 0 then -1 else Lib.indexAny l cs + 1 := by
  have g1 := Lib.indexAny_ge cs l
  rw [Lib.indexAny]
  by_cases h : cs.contains b = true
  · rw [if_pos h, if_pos h]
  · rw [if_neg h, if_neg h]
    by_cases h1 : Lib.indexAny l cs < 0
    · rw [if_pos h1, if_pos (show (Lib.indexAny l cs == -1) = true from by simp; omega)]
    · rw [if_neg h1, if_neg (show ¬ (Lib.indexAny l cs == -1) = true from by simp; omega)]
theorem any_app (cs : List UInt8) : ∀ (l m : List UInt8), Lib.indexAny (l ++ m) cs = if 0 ≤ Lib.indexAny l cs then Lib.indexAny l cs else if Lib.indexAny m cs < 0 then -1 else l.length + Lib.indexAny m cs
  | [], m => by
    have := Lib.indexAny_ge cs m
    rw [if_neg (show ¬ (0 : Int) ≤ Lib.indexAny [] cs from by show ¬ (0 : Int) ≤ -1; decide), List.nil_append]
    split
    · omega
    · simp
  | b :: l, m => by
    have ih := any_app cs l m
    rw [List.cons_append, any_cons, any_cons cs b l, ih]
    by_cases h : cs.contains b = true
    · rw [if_pos h, if_pos h, if_pos (Int.le_refl 0)]
    · rw [if_neg h, if_neg h]
      by_cases h1 : Lib.indexAny l cs < 0
      · rw [if_neg (show ¬ 0 ≤ Lib.indexAny l cs from by omega), if_pos h1, if_neg (show ¬ (0 : Int) ≤ -1 from by decide)]
        by_cases h2 : Lib.indexAny m cs < 0
        · rw [if_pos h2, if_pos (show (-1 : Int) < 0 from by decide), if_pos h2]
        · rw [if_neg h2, if_neg (show ¬ (l.length : Int) + Lib.indexAny m cs < 0 from by omega), if_neg h2]
          simp only [List.length_cons]
          omega
      · rw [if_pos (show 0 ≤ Lib.indexAny l cs from by omega), if_neg h1, if_pos (show 0 ≤ Lib.indexAny l cs + 1 from by omega)]
theorem any_fst (cs l m : List UInt8) (h : 0 ≤ Lib.indexAny l cs) : Lib.indexAny (l ++ m) cs = Lib.indexAny l cs := by rw [any_app, if_pos h]
theorem any_snd (cs l m : List UInt8) (h : Lib.indexAny l cs < 0) (h2 : 0 ≤ Lib.indexAny m cs) : Lib.indexAny (l ++ m) cs = l.length + Lib.indexAny m cs := by rw [any_app, if_neg (by omega), if_neg (by omega)]
theorem any_no (cs l m : List UInt8) (h : Lib.indexAny l cs < 0) (h2 : Lib.indexAny m cs < 0) : Lib.indexAny (l ++ m) cs = -1 := by rw [any_app, if_neg (by omega), if_pos h2]
theorem cat_list (a b : ByteArray) : (a ++ b).data.toList = a.data.toList ++ b.data.toList := by simp [ByteArray.data_append]
theorem cat_drop (a b : ByteArray) (i : Nat) (h : i ≤ a.size) : (a ++ b).data.toList.drop i = a.data.toList.drop i ++ b.data.toList := by
  rw [cat_list, List.drop_append_of_le_length (by rw [len_size]; exact h)]
theorem cat_drop2 (a b : ByteArray) (i : Nat) : (a ++ b).data.toList.drop (a.size + i) = b.data.toList.drop i := by
  rw [cat_list, List.drop_append, List.drop_of_length_le (by rw [len_size]; omega), List.nil_append, len_size, Nat.add_sub_cancel_left]
theorem cat_len (a b : ByteArray) (i : Nat) (h : i ≤ a.size) (h2 : i + lineLen a i < a.size) : lineLen (a ++ b) i = lineLen a i := by
  unfold lineLen at h2 ⊢
  by_cases h3 : Lib.indexAny (a.data.toList.drop i) [10, 12] < 0
  · rw [if_pos h3] at h2
    omega
  · rw [cat_drop a b i h, any_fst _ _ _ (by omega), if_neg h3, if_neg h3]
theorem cat_len_ge (a b : ByteArray) (i : Nat) (h : i ≤ a.size) (h2 : i + lineLen a i = a.size) : a.size ≤ i + lineLen (a ++ b) i := by
  have hl : (a.data.toList.drop i).length = a.size - i := by rw [List.length_drop, len_size]
  unfold lineLen at h2 ⊢
  rw [cat_drop a b i h, ByteArray.size_append]
  rcases any_le (a.data.toList.drop i) [10, 12] with h3 | h3
  · by_cases h4 : Lib.indexAny b.data.toList [10, 12] < 0
    · rw [any_no _ _ _ h3 h4, if_pos (by decide)]
      omega
    · rw [any_snd _ _ _ h3 (by omega), if_neg (by omega)]
      omega
  · have h4 := h3.2
    rw [if_neg (by omega)] at h2
    omega
theorem cat_len2 (a b : ByteArray) (i : Nat) : lineLen (a ++ b) (a.size + i) = lineLen b i := by
  unfold lineLen
  rw [cat_drop2, ByteArray.size_append]
  split
  · omega
  · rfl
theorem ext_list (s : ByteArray) (i j : Nat) : (s.extract i j).data.toList = (s.data.toList.drop i).take (j - i) := by
  simp [List.drop_take]
theorem cat_ext (a b : ByteArray) (i j : Nat) (hi : i ≤ j) (h : j ≤ a.size) : (a ++ b).extract i j = a.extract i j := by
  apply text_eq
  rw [ext_list, ext_list, cat_drop a b i (by omega), List.take_append_of_le_length (by rw [List.length_drop, len_size]; omega)]
theorem cat_ext2 (a b : ByteArray) (i j : Nat) : (a ++ b).extract (a.size + i) (a.size + j) = b.extract i j := by
  apply text_eq
  rw [ext_list, ext_list, cat_drop2, show a.size + j - (a.size + i) = j - i from by omega]
theorem cat_ext3 (a b : ByteArray) (i j : Nat) (hi : i ≤ a.size) (h : a.size ≤ j) : (a ++ b).extract i j = a.extract i a.size ++ b.extract 0 (j - a.size) := by
  apply text_eq
  rw [cat_list, ext_list, ext_list, ext_list, cat_drop a b i hi, List.take_append, List.drop_zero, List.take_of_length_le (show (a.data.toList.drop i).length ≤ j - i from by rw [List.length_drop, len_size]; omega), List.take_of_length_le (show (a.data.toList.drop i).length ≤ a.size - i from by rw [List.length_drop, len_size]; omega), List.length_drop, len_size]
  congr 2
  omega
theorem cat_get (a b : ByteArray) (i : Nat) (h : i < a.size) (h2 : i < (a ++ b).size) : (a ++ b)[i] = a[i] := by
  have h3 : (a ++ b).data.toList[i]? = a.data.toList[i]? := by
    rw [cat_list, List.getElem?_append_left (by rw [len_size]; exact h)]
  rw [List.getElem?_eq_getElem (by rw [len_size]; exact h2), List.getElem?_eq_getElem (by rw [len_size]; exact h)] at h3
  exact Option.some.inj h3
theorem cat_get2 (a b : ByteArray) (i : Nat) (h : i < b.size) (h2 : a.size + i < (a ++ b).size) : (a ++ b)[a.size + i] = b[i] := by
  have h3 : (a ++ b).data.toList[a.size + i]? = b.data.toList[i]? := by
    rw [cat_list, List.getElem?_append_right (by rw [len_size]; omega), len_size, Nat.add_sub_cancel_left]
  rw [List.getElem?_eq_getElem (by rw [len_size]; exact h2), List.getElem?_eq_getElem (by rw [len_size]; exact h)] at h3
  exact Option.some.inj h3
theorem cat_bt (a b : ByteArray) (i : Nat) (h : i < a.size) : bt (a ++ b) (i : Int) = bt a (i : Int) := by
  have h2 : i < (a ++ b).size := by rw [ByteArray.size_append]; omega
  rw [bt_of _ i h2, bt_of _ i h, cat_get a b i h h2]
theorem cat_bt2 (a b : ByteArray) (i : Nat) (h : i < b.size) : bt (a ++ b) ((a.size + i : Nat) : Int) = bt b (i : Int) := by
  have h2 : a.size + i < (a ++ b).size := by rw [ByteArray.size_append]; omega
  rw [bt_of _ _ h2, bt_of _ i h, cat_get2 a b i h h2]

/-! ### what is wrong with a line -/
theorem each_app (f : Int → Int × Bool) (m : List UInt8) : ∀ (l : List UInt8) (acc : List Int) (i : Int), 0 ≤ i → 0 ≤ (eachGo f l acc i).2 → eachGo f (l ++ m) acc i = eachGo f l acc i
  | [], acc, i, _, h => absurd h (by show ¬ (0 : Int) ≤ -1; decide)
  | b :: l, acc, i, hi, h => by
    rw [List.cons_append, eachGo, eachGo]
    rw [eachGo] at h
    by_cases hb : (f b.toNat).2 = true
    · rw [if_pos hb] at h
      rw [if_pos hb, if_pos hb]
      exact each_app f m l _ _ (by omega) h
    · rw [if_neg hb, if_neg hb]
theorem trim_behind (n : Nat) : ∀ (s : ByteArray), s.size = n → ∀ j : Nat, (trimF 32 s).size ≤ j → j < s.size → bt s (j : Int) = 32 := by
  induction n with
  | zero => intro s hs j h1 h2; omega
  | succ n ih =>
    intro s hs j h1 h2
    have hlt : n < s.size := by omega
    have he : (s.extract 0 n).data.toList = s.data.toList.take n := by simp
    have hl : s.data.toList = (s.extract 0 n).data.toList ++ [s[n]] := by
      have h1 := drop_at s n hlt
      have h2 : s.data.toList.drop (n + 1) = [] := List.drop_of_length_le (by rw [len_size]; omega)
      rw [h2] at h1
      rw [he, ← h1, List.take_append_drop]
    have hts : trimF 32 s = if (s[n] == 32) = true then trimF 32 (s.extract 0 n) else s := by
      apply text_eq
      rw [trimF, mk_data, hl, trim_list]
      split
      · rfl
      · exact hl.symm
    by_cases h32 : s[n] = 32
    · by_cases hj : j = n
      · subst hj
        rw [bt_of s j hlt, h32]
        rfl
      · rw [if_pos (by rw [h32]; rfl)] at hts
        have hz : (s.extract 0 n).size = n := by simp; omega
        have h3 := ih (s.extract 0 n) hz j (by rw [← hts]; exact h1) (by omega)
        rw [bt_of _ j (by omega)] at h3
        rw [bt_of _ j h2, ← h3]
        simp [ByteArray.getElem_eq_getElem_data]
    · rw [if_neg (by simpa using h32)] at hts
      rw [hts] at h1
      omega
end Go.Proofs.YtnepacpbpbbbhaaDoor.PureB
