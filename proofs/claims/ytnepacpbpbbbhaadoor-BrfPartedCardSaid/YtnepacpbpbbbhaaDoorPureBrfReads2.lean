/- brf.Read as the plain function. -/
import Derived.Test.YtnepacpbpbbbhaaDoorPureBrfReads1
namespace Go.Proofs.YtnepacpbpbbbhaaDoor.PureB
open Go.RowKit Go.Proofs.YtnepacpbpbbbhaaDoor.PBrf Go.Proofs.YtnepacpbpbbbhaaDoor.G Go.Proofs.YtnepacpbpbbbhaaDoorW.PrintWords Go.Proofs.YtnepacpbpbbbhaaDoorW.PrintLast

theorem rest_list (s : ByteArray) (a : Nat) : (s.extract a s.size).data.toList = s.data.toList.drop a := by
  simp [List.take_of_length_le]
theorem rest_size (s : ByteArray) (a : Nat) (h : a ≤ s.size) : (s.extract a s.size).size = s.size - a := by simp
theorem rest_cut (s : ByteArray) (a n : Nat) (h : a + n ≤ s.size) : (s.extract a s.size).extract 0 n = s.extract a (a + n) := by
  apply ByteArray.ext
  simp only [ByteArray.data_extract, Array.extract_extract]
  rw [Nat.add_zero, Nat.min_eq_left h]
theorem rest_bt (s : ByteArray) (a n : Nat) (h : a + n < s.size) : bt (s.extract a s.size) (n : Int) = bt s ((a + n : Nat) : Int) := by
  have hl : n < (s.extract a s.size).size := by rw [rest_size s a (by omega)]; omega
  rw [bt_of _ n hl, bt_of _ (a + n) h]
  simp [ByteArray.getElem_eq_getElem_data]
theorem any_le (l : List UInt8) (cs : List UInt8) : Lib.indexAny l cs < 0 ∨ (0 ≤ Lib.indexAny l cs ∧ (Lib.indexAny l cs).toNat < l.length) := by
  induction l with
  | nil => exact .inl (by show (-1 : Int) < 0; decide)
  | cons b l ih =>
    unfold Lib.indexAny
    split
    · exact .inr ⟨Int.le_refl _, by simp⟩
    · split
      · exact .inl (by decide)
      · rename_i h1 h2
        have := Lib.indexAny_ge cs l
        have h3 : Lib.indexAny l cs ≠ -1 := by simpa using h2
        rcases ih with h | h
        · omega
        · refine .inr ⟨by omega, ?_⟩
          simp only [List.length_cons]
          omega
theorem lineLen_le (s : ByteArray) (a : Nat) (h : a ≤ s.size) : a + lineLen s a ≤ s.size := by
  unfold lineLen
  split
  · omega
  · rename_i h1
    rcases any_le (s.data.toList.drop a) [10, 12] with h2 | h2
    · exact absurd h2 h1
    · have := h2.2
      rw [List.length_drop, len_size] at this
      omega
theorem any_head (l : List UInt8) (b : UInt8) : Lib.indexAny (b :: l) [10, 12] = 0 ↔ (b = 10 ∨ b = 12) := by
  unfold Lib.indexAny
  by_cases h : ([10, 12] : List UInt8).contains b = true
  · rw [if_pos h]
    simp at h
    simp [h]
  · rw [if_neg h]
    have h2 : ¬ (b = 10 ∨ b = 12) := by simpa using h
    have := Lib.indexAny_ge [10, 12] l
    constructor
    · intro h3
      split at h3
      · cases h3
      · rename_i h4
        have h5 : Lib.indexAny l [10, 12] ≠ -1 := by simpa using h4
        omega
    · exact fun h3 => absurd h3 h2
theorem line_err2 (l : ByteArray) : (lineP l).2.2 = 0 ∨ ((lineP l).2.2 = 2 ∧ 0 ≤ (lineP l).2.1) := by
  unfold lineP
  split
  · rename_i h
    exact .inr ⟨rfl, h⟩
  · split
    · exact .inr ⟨rfl, by show (0 : Int) ≤ ((trimF 32 l).size : Int); omega⟩
    · exact .inl rfl
theorem brf_go (s : ByteArray) (hs : s.size ≤ 600000) (fuel : Nat) : ∀ (pages : List (List ByteArray)) (page : List ByteArray) (a : Nat), a ≤ s.size → s.size - a < fuel → pages.length + (s.size - a) ≤ 1000000 → page.length + (s.size - a) ≤ 1000000 →
    ∃ K, brf_Read.l0 K s pages (a : Int) page = some (outP (rd fuel s pages page a)) := by
  induction fuel with
  | zero => intro pages page a h1 h2; omega
  | succ fuel ih =>
    intro pages page a h1 h2 h3 h4
    by_cases ha : a < s.size
    · have hany : strings_IndexAny.f (s.extract a s.size) (⟨#[10, 12]⟩ : ByteArray) = some (Lib.indexAny (s.data.toList.drop a) [10, 12]) := by
        rw [strings_IndexAny.f, if_pos ⟨rfl, by rw [rest_size s a h1]; omega⟩, rest_list]
      have hhead := any_head (s.data.toList.drop (a + 1)) s[a]
      rw [← drop_at s a ha] at hhead
      have hb0 := rest_bt s a 0 (by omega)
      rw [Nat.add_zero, bt_of s a ha] at hb0
      have hrs := rest_size s a h1
      have hstep : ∀ k, brf_Read.l0 (k + 1) s pages (a : Int) page = brf_Read.j1 k s pages (a : Int) page (s.extract a s.size) (Lib.indexAny (s.data.toList.drop a) [10, 12]) (decide (s[a] = 12)) := by
        intro k
        rw [brf_Read.l0, if_pos (by omega), if_pos (by omega), if_pos (by omega), Int.toNat_natCast, hany, Option.bind_some]
        by_cases h0 : Lib.indexAny (s.data.toList.drop a) [10, 12] = 0
        · rw [if_pos h0, if_pos (by omega), show (0 : Int) = ((0 : Nat) : Int) from rfl, hb0]
          congr 1
          by_cases h12 : s[a] = 12
          · rw [decide_eq_true h12, h12]; rfl
          · rw [decide_eq_false h12]
            refine beq_eq_false_iff_ne.2 (fun h => h12 (UInt8.toNat_inj.1 ?_))
            rw [show s[a].toNat = 12 from by omega]
            rfl
        · rw [if_neg h0, decide_eq_false (fun h12 => h0 (hhead.2 (.inr h12)))]
      by_cases h12 : s[a] = 12
      · obtain ⟨K, hK⟩ := ih (pages ++ [page]) [] (a + 1) (by omega) (by omega) (by simp; omega) (by simp; omega)
        refine ⟨K + 2, ?_⟩
        rw [hstep, brf_Read.j1, if_pos (decide_eq_true h12), if_pos (by omega), wrap_of (x := (a : Int) + 1) (by omega) (by omega), rd, dif_pos ha, if_pos h12]
        exact hK
      · have hll := lineLen_le s a h1
        have hj2 : ∀ k, brf_Read.j1 (k + 1) s pages (a : Int) page (s.extract a s.size) (Lib.indexAny (s.data.toList.drop a) [10, 12]) (decide (s[a] = 12)) = brf_Read.j2 k s pages (a : Int) page (s.extract a s.size) (lineLen s a : Int) := by
          intro k
          rw [brf_Read.j1, if_neg (by simpa using h12)]
          unfold lineLen
          by_cases hn : Lib.indexAny (s.data.toList.drop a) [10, 12] < 0
          · rw [if_pos hn, if_pos hn, hrs]
          · rw [if_neg hn, if_neg hn]
            congr 1
            omega
        have hcut := rest_cut s a (lineLen s a) hll
        have hsz : (s.extract a (a + lineLen s a)).size = lineLen s a := by simp; omega
        have hline := line_at (s.extract a (a + lineLen s a)) a (by omega) (by omega)
        have herr := line_err2 (s.extract a (a + lineLen s a))
        have hrd : rd (fuel + 1) s pages page a = if (lineP (s.extract a (a + lineLen s a))).2.2 ≠ 0 then ([], (a : Int) + (lineP (s.extract a (a + lineLen s a))).2.1)
            else if a + lineLen s a = s.size ∨ bt s ((a + lineLen s a : Nat) : Int) = 12 then ([], ((a + lineLen s a : Nat) : Int))
            else rd fuel s pages (page ++ [(lineP (s.extract a (a + lineLen s a))).1]) (a + lineLen s a + 1) := by
          rw [rd, dif_pos ha, if_neg h12]
        have hbt := fun h => rest_bt s a (lineLen s a) h
        rw [hrd]
        generalize lineP (s.extract a (a + lineLen s a)) = r at hline herr
        generalize hm : lineLen s a = m at hj2 hll hcut hsz hline hbt
        have hgo : ∀ k, brf_Read.j2 (k + 1) s pages (a : Int) page (s.extract a s.size) (m : Int) = if r.2.2 = 0 then (if a + m = s.size ∨ bt s ((a + m : Nat) : Int) = 12 then some ([], ((a + m : Nat) : Int), 2) else brf_Read.l0 k s pages ((a + m + 1 : Nat) : Int) (page ++ [r.1])) else some ([], (a : Int) + r.2.1, r.2.2) := by
          intro k
          rw [brf_Read.j2, if_pos (by omega), if_pos (by omega), Int.toNat_natCast, hcut, hline, Option.bind_some]
          by_cases he : r.2.2 = 0
          · simp only [if_pos he]
            by_cases hend : a + m = s.size
            · rw [if_pos (by omega), if_pos (.inl hend), wrap_of (by omega) (by omega)]
              rfl
            · rw [if_neg (by omega), if_pos (by omega), hbt (by omega)]
              by_cases hb : bt s ((a + m : Nat) : Int) = 12
              · rw [if_pos hb, if_pos (.inr hb), wrap_of (by omega) (by omega)]
                rfl
              · rw [if_neg hb, if_pos (by omega), if_neg (fun h => h.elim hend hb), wrap_of (x := (m : Int) + 1) (by omega) (by omega), wrap_of (x := (a : Int) + ((m : Int) + 1)) (by omega) (by omega)]
                congr 1
          · simp only [if_neg he]
        by_cases he : r.2.2 = 0
        · by_cases hb : a + m = s.size ∨ bt s ((a + m : Nat) : Int) = 12
          · refine ⟨3, ?_⟩
            rw [hstep, hj2, hgo, if_pos he, if_pos hb, if_neg (by simpa using he), if_pos hb, outP, if_neg (by simp only; omega)]
          · have hlt : a + m < s.size := by
              rcases Nat.lt_or_ge (a + m) s.size with h | h
              · exact h
              · exact absurd (.inl (by omega)) hb
            obtain ⟨K, hK⟩ := ih pages (page ++ [r.1]) (a + m + 1) (by omega) (by omega) (by omega) (by simp; omega)
            refine ⟨K + 3, ?_⟩
            rw [hstep, hj2, hgo, if_pos he, if_neg hb, if_neg (by simpa using he), if_neg hb]
            exact hK
        · have h2 := herr.resolve_left he
          refine ⟨3, ?_⟩
          rw [hstep, hj2, hgo, if_neg he, if_pos he, outP, if_neg (by simp only; omega), h2.1]
    · refine ⟨1, ?_⟩
      obtain rfl : a = s.size := by omega
      rw [brf_Read.l0, if_neg (by omega), rd, dif_neg (by omega)]
      by_cases hp : page.isEmpty = true
      · rw [if_pos hp, if_pos hp]
        rfl
      · rw [if_neg hp, if_neg hp, outP, if_neg (by simp only; omega)]
end Go.Proofs.YtnepacpbpbbbhaaDoor.PureB
