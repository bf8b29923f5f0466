/- The reference's Read is the plain function. -/
import Derived.Test.YtnepacpbpbbbhaaDoorPureBrfReads5
namespace Go.Proofs.YtnepacpbpbbbhaaDoor.PureB
open Go.RowKit Go.Proofs.YtnepacpbpbbbhaaDoor.PBrf Go.Proofs.YtnepacpbpbbbhaaDoor.G Go.Proofs.YtnepacpbpbbbhaaDoorW.PrintWords Go.Proofs.YtnepacpbpbbbhaaDoorW.PrintLast

theorem ref_go (s : ByteArray) (hs : s.size ≤ 10000) (fuel : Nat) : ∀ (pages : List (List ByteArray)) (page : List ByteArray) (a : Nat), a ≤ s.size → s.size - a < fuel → pages.length + (s.size - a) ≤ 100000 → page.length + (s.size - a) ≤ 100000 →
    ∃ K, stylusref27_Read.l0 K s pages page (a : Int) (a : Int) = some (rd fuel s pages page a) := by
  induction fuel with
  | zero => intro pages page a h1 h2; omega
  | succ fuel ih =>
    intro pages page a h1 h2 h3 h4
    by_cases ha : a < s.size
    · obtain ⟨b12, b10⟩ := bt_12 s a ha
      by_cases h12 : s[a] = 12
      · obtain ⟨K, hK⟩ := ih (pages ++ [page]) [] (a + 1) (by omega) (by omega) (by simp; omega) (by simp; omega)
        refine ⟨K + 3, ?_⟩
        have hb := b12.2 h12
        rw [stylusref27_Read.l0, if_pos (by omega), if_pos (by omega), if_pos (by omega), hb, if_neg (by decide), stylusref27_Read.j1, if_neg (by decide), if_pos rfl, if_neg (by omega), if_pos (by omega), if_pos (by omega), hb, stylusref27_Read.j2, if_pos (by decide), if_neg (by omega), if_pos (by omega), wrap_of (x := (a : Int) + 1) (by omega) (by omega), rd, dif_pos ha, if_pos h12]
        exact hK
      · have hll := lineLen_le s a h1
        obtain ⟨f1, f2⟩ := line_facts s a h1
        have hn12 : bt s (a : Int) ≠ 12 := fun h => h12 (b12.1 h)
        rw [rd, dif_pos ha, if_neg h12]
        generalize lineLen s a = m at hll f1 f2
        have hskip := fun k => ref_skip s hs pages page a m k a hll f1
        have hj1 : ∀ k, stylusref27_Read.j1 (k + 1) s pages page (a : Int) ((a + m : Nat) : Int) false = stylusref27_Read.j2 k s pages page (a : Int) ((a + m : Nat) : Int) false := by
          intro k
          rw [stylusref27_Read.j1, if_neg (by decide)]
          by_cases hm : m = 0
          · subst hm
            rw [Nat.add_zero, if_pos rfl, if_neg (by omega), if_pos (by omega), if_pos (by omega), beq_eq_false_iff_ne.2 hn12]
          · rw [if_neg (by omega)]
        have hl0 : ∀ k, stylusref27_Read.l0 (k + 1) s pages page (a : Int) ((a + m : Nat) : Int) = stylusref27_Read.j1 k s pages page (a : Int) ((a + m : Nat) : Int) false := by
          intro k
          rw [stylusref27_Read.l0, if_pos (by omega)]
          by_cases hend : a + m = s.size
          · rw [if_neg (by omega)]
          · rw [if_pos (by omega), if_pos (by omega)]
            rcases f2 (by omega) with hb | hb
            · rw [if_pos hb]
            · rw [if_neg (by rw [hb]; decide), hb]
              rfl
        have hend := fun k hk => ref_end s hs pages page (by omega) a m hll k hk
        by_cases he : (lineP (s.extract a (a + m))).2.2 ≠ 0
        · refine ⟨11000 + 1 + 1 + 1 + 2 * m, ?_⟩
          rw [hskip, hl0, hj1, hend 11000 (Nat.le_refl _), if_pos he, if_pos he]
        · by_cases hb : a + m = s.size ∨ bt s ((a + m : Nat) : Int) = 12
          · refine ⟨11000 + 1 + 1 + 1 + 2 * m, ?_⟩
            rw [hskip, hl0, hj1, hend 11000 (Nat.le_refl _), if_neg he, if_neg he, if_pos hb, if_pos hb]
          · have hlt : a + m < s.size := by
              rcases Nat.lt_or_ge (a + m) s.size with h | h
              · exact h
              · exact absurd (.inl (by omega)) hb
            obtain ⟨K, hK⟩ := ih pages (page ++ [(lineP (s.extract a (a + m))).1]) (a + m + 1) (by omega) (by omega) (by omega) (by simp; omega)
            refine ⟨(K + 11000) + 1 + 1 + 1 + 2 * m, ?_⟩
            rw [hskip, hl0, hj1, hend (K + 11000) (Nat.le_add_left _ _), if_neg he, if_neg he, if_neg hb, if_neg hb]
            exact at_rounds (g := fun k => stylusref27_Read.l0 k s pages (page ++ [(lineP (s.extract a (a + m))).1]) ((a + m + 1 : Nat) : Int) ((a + m + 1 : Nat) : Int)) (fun k => (stylusref27_Read.mono_l k).1 _ _ _ _ _) (k := K) (k' := K + 11000) (Nat.le_add_right _ _) hK
    · refine ⟨3, ?_⟩
      obtain rfl : a = s.size := by omega
      rw [stylusref27_Read.l0, if_pos (by omega), if_neg (by omega), stylusref27_Read.j1, if_neg (by decide), if_pos rfl, if_pos rfl, stylusref27_Read.j2, if_pos rfl, if_pos rfl, rd, dif_neg (by omega)]
      cases page with
      | nil => rfl
      | cons x l =>
        rw [if_pos (by simp only [List.length_cons]; omega)]
        rfl
end Go.Proofs.YtnepacpbpbbbhaaDoor.PureB
