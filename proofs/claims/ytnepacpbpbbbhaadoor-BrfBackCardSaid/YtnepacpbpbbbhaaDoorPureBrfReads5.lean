/- The reference's Read as the plain function, begun: what it does at a line's end. -/
import Derived.Test.YtnepacpbpbbbhaaDoorPureBrfReads4
namespace Go.Proofs.YtnepacpbpbbbhaaDoor.PureB
open Go.RowKit Go.Proofs.YtnepacpbpbbbhaaDoor.PBrf Go.Proofs.YtnepacpbpbbbhaaDoor.G Go.Proofs.YtnepacpbpbbbhaaDoorW.PrintWords Go.Proofs.YtnepacpbpbbbhaaDoorW.PrintLast

theorem get_bt (s : ByteArray) (j : Nat) (x : UInt8) (h : s.data.toList[j]? = some x) : bt s (j : Int) = x.toNat := by
  obtain ⟨hl, he⟩ := List.getElem?_eq_some_iff.1 h
  have hl2 : j < s.size := by simpa using hl
  rw [bt_of s j hl2, ← he]
  rfl
theorem byte_ne (x : UInt8) (h : x ≠ 10 ∧ x ≠ 12) : (x.toNat : Int) ≠ 10 ∧ (x.toNat : Int) ≠ 12 := by
  refine ⟨fun h1 => h.1 (UInt8.toNat_inj.1 ?_), fun h1 => h.2 (UInt8.toNat_inj.1 ?_)⟩
  · rw [show x.toNat = 10 from by omega]; rfl
  · rw [show x.toNat = 12 from by omega]; rfl
theorem line_facts (s : ByteArray) (a : Nat) (ha : a ≤ s.size) : (∀ j, a ≤ j → j < a + lineLen s a → bt s (j : Int) ≠ 10 ∧ bt s (j : Int) ≠ 12) ∧ (a + lineLen s a < s.size → bt s ((a + lineLen s a : Nat) : Int) = 10 ∨ bt s ((a + lineLen s a : Nat) : Int) = 12) := by
  obtain ⟨h1, h2⟩ := any_spec (s.data.toList.drop a)
  unfold lineLen
  by_cases h : Lib.indexAny (s.data.toList.drop a) [10, 12] < 0
  · rw [if_pos h]
    refine ⟨fun j hj hj2 => ?_, fun h3 => by omega⟩
    have hget : s.data.toList[j]? = some (s.data.toList[j]'(by rw [len_size]; omega)) := List.getElem?_eq_getElem _
    rw [get_bt s j _ hget]
    refine byte_ne _ (h1 h _ ?_)
    refine List.mem_of_getElem? (i := j - a) ?_
    rw [List.getElem?_drop, show a + (j - a) = j from by omega]
    exact hget
  · rw [if_neg h]
    obtain ⟨g1, x, g2, g3⟩ := h2 (by omega)
    generalize (Lib.indexAny (s.data.toList.drop a) [10, 12]).toNat = m at g1 g2
    rw [List.getElem?_drop] at g2
    have hm : a + m < s.size := by
      have := (List.getElem?_eq_some_iff.1 g2).1
      rw [len_size] at this
      exact this
    refine ⟨fun j hj hj2 => ?_, fun _ => ?_⟩
    · have hget : s.data.toList[j]? = some (s.data.toList[j]'(by rw [len_size]; omega)) := List.getElem?_eq_getElem _
      rw [get_bt s j _ hget]
      refine byte_ne _ (g1 (j - a) (by omega) _ ?_)
      rw [List.getElem?_drop, show a + (j - a) = j from by omega]
      exact hget
    · rw [get_bt s (a + m) x g2]
      rcases g3 with rfl | rfl
      · exact .inl rfl
      · exact .inr rfl
/-- What the reference does at a line's end that is no form feed at the line's beginning. -/
theorem ref_end (s : ByteArray) (hs : s.size ≤ 10000) (pages : List (List ByteArray)) (page : List ByteArray) (hpg : page.length ≤ 200000) (a m : Nat) (hll : a + m ≤ s.size) (k : Nat) (hk : 11000 ≤ k) :
    stylusref27_Read.j2 (k + 1) s pages page (a : Int) ((a + m : Nat) : Int) false =
      if (lineP (s.extract a (a + m))).2.2 ≠ 0 then some ([], (a : Int) + (lineP (s.extract a (a + m))).2.1)
      else if a + m = s.size ∨ bt s ((a + m : Nat) : Int) = 12 then some ([], ((a + m : Nat) : Int))
      else stylusref27_Read.l0 k s pages (page ++ [(lineP (s.extract a (a + m))).1]) ((a + m + 1 : Nat) : Int) ((a + m + 1 : Nat) : Int) := by
  have hsz : (s.extract a (a + m)).size = m := by simp; omega
  have hc := cells_same (s.extract a (a + m)) (by omega) k (by omega)
  have ht : stylusref27_trim.f k (s.extract a (a + m)) 32 = some (trimF 32 (s.extract a (a + m))) := trim_go32 m _ k hsz (by omega) (by omega)
  have hp := each_place fromF (s.extract a (a + m)).data.toList [] 0 (by omega)
  rw [len_size] at hp
  have htl := trim_len 32 (s.extract a (a + m))
  rw [stylusref27_Read.j2, if_neg (by decide), if_pos (by omega), if_pos (by omega), if_pos (by omega), Int.toNat_natCast, Int.toNat_natCast, hc, cell_Cells.f, if_pos (by omega), Option.bind_some]
  unfold lineP
  by_cases h : 0 ≤ (eachGo fromF (s.extract a (a + m)).data.toList [] 0).2
  · rw [if_pos h, if_pos h]
    simp only
    rw [if_neg (by decide), if_pos (by decide), wrap_of (by omega) (by omega)]
  · rw [if_neg h, if_neg h]
    simp only [↓reduceIte]
    rw [ht, Option.bind_some]
    by_cases h2 : (trimF 32 (s.extract a (a + m))).size < (s.extract a (a + m)).size
    · rw [if_pos (by omega), if_pos h2]
      simp only
      rw [if_pos (by decide), wrap_of (by omega) (by omega)]
    · rw [if_neg (by omega), if_neg h2]
      simp only
      rw [if_neg (show ¬ ((0 : Int) ≠ 0) from by decide)]
      by_cases hend : a + m = s.size
      · rw [if_pos (by omega), if_pos (.inl hend)]
      · rw [if_neg (by omega), if_pos (by omega), if_pos (by omega)]
        by_cases hb : bt s ((a + m : Nat) : Int) = 12
        · rw [if_pos hb, if_pos (.inr hb)]
        · rw [if_neg hb, if_pos (by omega), if_neg (fun h => h.elim hend hb), wrap_of (x := ((a + m : Nat) : Int) + 1) (by omega) (by omega)]
          rfl
end Go.Proofs.YtnepacpbpbbbhaaDoor.PureB
