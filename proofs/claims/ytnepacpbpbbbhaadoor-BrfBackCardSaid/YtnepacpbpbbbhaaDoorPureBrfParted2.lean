/- What is read of two texts, one behind the other, by what is read of each. -/
import Derived.Test.YtnepacpbpbbbhaaDoorPureBrfParted1
namespace Go.Proofs.YtnepacpbpbbbhaaDoor.PureB
open Go.RowKit Go.Proofs.YtnepacpbpbbbhaaDoor.PBrf Go.Proofs.YtnepacpbpbbbhaaDoor.G Go.Proofs.YtnepacpbpbbbhaaDoorW.PrintWords Go.Proofs.YtnepacpbpbbbhaaDoorW.PrintLast

/-- What was read, moved on by n bytes, behind the pages p. -/
def sh (n : Nat) (p : List (List ByteArray)) (r : List (List ByteArray) × Int) : List (List ByteArray) × Int := if 0 ≤ r.2 then ([], (n : Int) + r.2) else (p ++ r.1, r.2)
theorem sh_pos {n : Nat} {p : List (List ByteArray)} {x : Int} (l : List (List ByteArray)) (h : 0 ≤ x) : sh n p (l, x) = ([], (n : Int) + x) := by rw [sh, if_pos h]
theorem rd_shift (a b : ByteArray) (p : List (List ByteArray)) (fuel : Nat) : ∀ (pages : List (List ByteArray)) (page : List ByteArray) (i : Nat), i ≤ b.size → b.size - i < fuel →
    rd fuel (a ++ b) (p ++ pages) page (a.size + i) = sh a.size p (rd fuel b pages page i) := by
  induction fuel with
  | zero => intro pages page i h1 h2; omega
  | succ fuel ih =>
    intro pages page i h1 h2
    have hsz : (a ++ b).size = a.size + b.size := ByteArray.size_append
    rw [rd_step fuel (a ++ b), rd_step fuel b]
    by_cases hi : i < b.size
    · have hi2 : a.size + i < (a ++ b).size := by omega
      rw [dif_pos hi2, dif_pos hi, cat_get2 a b i hi hi2]
      by_cases h12 : b[i] = 12
      · rw [if_pos h12, if_pos h12, List.append_assoc]
        exact ih (pages ++ [page]) [] (i + 1) (by omega) (by omega)
      · have hll := lineLen_le b i h1
        have herr := line_err2 (b.extract i (i + lineLen b i))
        rw [if_neg h12, if_neg h12, cat_len2, Nat.add_assoc, cat_ext2]
        by_cases he : (lineP (b.extract i (i + lineLen b i))).2.2 ≠ 0
        · have h3 := (herr.resolve_left he).2
          rw [if_pos he, if_pos he, sh_pos _ (by omega)]
          congr 1
          omega
        · rw [if_neg he, if_neg he]
          by_cases hb : i + lineLen b i = b.size ∨ bt b ((i + lineLen b i : Nat) : Int) = 12
          · have hb2 : a.size + (i + lineLen b i) = (a ++ b).size ∨ bt (a ++ b) ((a.size + (i + lineLen b i) : Nat) : Int) = 12 := by
              by_cases h3 : i + lineLen b i = b.size
              · exact .inl (by omega)
              · exact .inr ((cat_bt2 a b _ (by omega)).trans (hb.resolve_left h3))
            rw [if_pos hb2, if_pos hb, sh_pos _ (by omega)]
            congr 1
          · have hb2 : ¬ (a.size + (i + lineLen b i) = (a ++ b).size ∨ bt (a ++ b) ((a.size + (i + lineLen b i) : Nat) : Int) = 12) := by
              rintro (h3 | h3)
              · exact hb (.inl (by omega))
              · by_cases h4 : i + lineLen b i = b.size
                · exact hb (.inl h4)
                · exact hb (.inr ((cat_bt2 a b _ (by omega)).symm.trans h3))
            have h4 : i + lineLen b i ≠ b.size := fun h => hb (.inl h)
            rw [if_neg hb2, if_neg hb]
            exact ih pages _ (i + lineLen b i + 1) (by omega) (by omega)
    · rw [dif_neg (by omega), dif_neg hi]
      by_cases hp : page.isEmpty = true
      · rw [if_pos hp, if_pos hp]
        rfl
      · rw [if_neg hp, if_neg hp, sh_pos _ (by omega)]
        congr 1
        omega

theorem rd_ok (a b : ByteArray) (h : Nat) (hh : b.size < h) (fuel : Nat) : ∀ (pages : List (List ByteArray)) (page : List ByteArray) (i g : Nat), i ≤ a.size → a.size - i < fuel → (a ++ b).size - i < g → (rd fuel a pages page i).2 < 0 →
    rd g (a ++ b) pages page i = rd h (a ++ b) (rd fuel a pages page i).1 [] a.size := by
  induction fuel with
  | zero => intro pages page i g h1 h2; omega
  | succ fuel ih =>
    intro pages page i g h1 h2 h3 hneg
    have hsz : (a ++ b).size = a.size + b.size := ByteArray.size_append
    obtain ⟨g, rfl⟩ : ∃ m, g = m + 1 := ⟨g - 1, by omega⟩
    rw [rd_step fuel a] at hneg ⊢
    by_cases hi : i < a.size
    · have hi2 : i < (a ++ b).size := by omega
      rw [dif_pos hi] at hneg ⊢
      by_cases h12 : a[i] = 12
      · rw [if_pos h12] at hneg ⊢
        rw [rd_step g, dif_pos hi2, cat_get a b i hi hi2, if_pos h12]
        exact ih _ _ (i + 1) g (by omega) (by omega) (by omega) hneg
      · have hll := lineLen_le a i h1
        have herr := line_err2 (a.extract i (i + lineLen a i))
        rw [if_neg h12] at hneg ⊢
        by_cases he : (lineP (a.extract i (i + lineLen a i))).2.2 ≠ 0
        · have h4 := (herr.resolve_left he).2
          rw [if_pos he] at hneg
          simp only at hneg
          omega
        · rw [if_neg he] at hneg ⊢
          by_cases hb : i + lineLen a i = a.size ∨ bt a ((i + lineLen a i : Nat) : Int) = 12
          · rw [if_pos hb] at hneg
            simp only at hneg
            omega
          · rw [if_neg hb] at hneg ⊢
            have h4 : i + lineLen a i < a.size := by
              have : i + lineLen a i ≠ a.size := fun h => hb (.inl h)
              omega
            have hb2 : ¬ (i + lineLen a i = (a ++ b).size ∨ bt (a ++ b) ((i + lineLen a i : Nat) : Int) = 12) := by
              rintro (h5 | h5)
              · omega
              · exact hb (.inr ((cat_bt a b _ h4).symm.trans h5))
            rw [rd_step g, dif_pos hi2, cat_get a b i hi hi2, if_neg h12, cat_len a b i h1 h4, cat_ext a b i _ (by omega) hll, if_neg he, if_neg hb2]
            exact ih _ _ (i + lineLen a i + 1) g (by omega) (by omega) (by omega) hneg
    · rw [dif_neg hi] at hneg ⊢
      obtain rfl : i = a.size := by omega
      by_cases hp : page.isEmpty = true
      · rw [if_pos hp]
        rw [List.isEmpty_iff.1 hp]
        exact rd_any _ _ _ _ _ _ (by omega) (by omega) (by omega)
      · rw [if_neg hp] at hneg
        simp only at hneg
        omega

theorem rd_err (a b : ByteArray) (fuel : Nat) : ∀ (pages : List (List ByteArray)) (page : List ByteArray) (i g : Nat), i ≤ a.size → a.size - i < fuel → (a ++ b).size - i < g → 0 ≤ (rd fuel a pages page i).2 →
    (∃ j : Nat, (rd fuel a pages page i).2 ≤ (j : Int) ∧ j < a.size ∧ bt a (j : Int) ≠ 32) → rd g (a ++ b) pages page i = ([], (rd fuel a pages page i).2) := by
  induction fuel with
  | zero => intro pages page i g h1 h2; omega
  | succ fuel ih =>
    intro pages page i g h1 h2 h3 hpos hj
    have hsz : (a ++ b).size = a.size + b.size := ByteArray.size_append
    obtain ⟨g, rfl⟩ : ∃ m, g = m + 1 := ⟨g - 1, by omega⟩
    rw [rd_step fuel a] at hpos hj ⊢
    by_cases hi : i < a.size
    · have hi2 : i < (a ++ b).size := by omega
      rw [dif_pos hi] at hpos hj ⊢
      by_cases h12 : a[i] = 12
      · rw [if_pos h12] at hpos hj ⊢
        rw [rd_step g, dif_pos hi2, cat_get a b i hi hi2, if_pos h12]
        exact ih _ _ (i + 1) g (by omega) (by omega) (by omega) hpos hj
      · have hll := lineLen_le a i h1
        rw [if_neg h12] at hpos hj ⊢
        rw [rd_step g, dif_pos hi2, cat_get a b i hi hi2, if_neg h12]
        by_cases h4 : i + lineLen a i < a.size
        · rw [cat_len a b i h1 h4, cat_ext a b i _ (by omega) hll]
          by_cases he : (lineP (a.extract i (i + lineLen a i))).2.2 ≠ 0
          · rw [if_pos he, if_pos he]
          · rw [if_neg he] at hpos hj ⊢
            rw [if_neg he]
            by_cases hb : bt a ((i + lineLen a i : Nat) : Int) = 12
            · rw [if_pos (.inr ((cat_bt a b _ h4).trans hb)), if_pos (.inr hb)]
            · have hb1 : ¬ (i + lineLen a i = a.size ∨ bt a ((i + lineLen a i : Nat) : Int) = 12) := fun h => h.elim (fun h => by omega) hb
              have hb2 : ¬ (i + lineLen a i = (a ++ b).size ∨ bt (a ++ b) ((i + lineLen a i : Nat) : Int) = 12) := fun h => h.elim (fun h => by omega) (fun h => hb ((cat_bt a b _ h4).symm.trans h))
              rw [if_neg hb1] at hpos hj ⊢
              rw [if_neg hb2]
              exact ih _ _ (i + lineLen a i + 1) g (by omega) (by omega) (by omega) hpos hj
        · have h5 : i + lineLen a i = a.size := by omega
          have hge := cat_len_ge a b i h1 h5
          rw [h5] at hpos hj ⊢
          rw [cat_ext3 a b i _ h1 hge]
          obtain ⟨j, j1, j2, j3⟩ := hj
          by_cases he : (lineP (a.extract i a.size)).2.2 ≠ 0
          · rw [if_pos he] at j1 ⊢
            have hl : lineP (a.extract i a.size ++ b.extract 0 (i + lineLen (a ++ b) i - a.size)) = lineP (a.extract i a.size) := by
              generalize b.extract 0 (i + lineLen (a ++ b) i - a.size) = m
              unfold lineP at he j1 ⊢
              by_cases hc : 0 ≤ (eachGo fromF (a.extract i a.size).data.toList [] 0).2
              · rw [cat_list, each_app _ _ _ _ _ (Int.le_refl 0) hc, if_pos hc, if_pos hc]
              · rw [if_neg hc] at he j1
                exfalso
                by_cases ht : (trimF 32 (a.extract i a.size)).size < (a.extract i a.size).size
                · rw [if_pos ht] at j1
                  simp only at j1
                  have hz : (a.extract i a.size).size = a.size - i := by simp
                  have h6 := trim_behind (a.extract i a.size).size (a.extract i a.size) rfl (j - i) (by omega) (by omega)
                  have h7 := rest_bt a i (j - i) (by omega)
                  rw [show i + (j - i) = j from by omega] at h7
                  exact j3 (h7.symm.trans h6)
                · rw [if_neg ht] at he
                  exact he rfl
            rw [hl, if_pos he]
          · exfalso
            rw [if_neg he, if_pos (.inl rfl)] at j1
            simp only at j1
            omega
    · exfalso
      rw [dif_neg hi] at hpos hj
      obtain ⟨j, j1, j2, j3⟩ := hj
      by_cases hp : page.isEmpty = true
      · rw [if_pos hp] at hpos
        exact absurd hpos (by show ¬ (0 : Int) ≤ -1; decide)
      · rw [if_neg hp] at j1
        simp only at j1
        omega
/-- Where a text is spoilt lies in it, or at its end. -/
theorem line_place (l : ByteArray) : (lineP l).2.1 ≤ (l.size : Int) := by
  have h1 := each_place fromF l.data.toList [] 0 (by omega)
  have h2 := trim_len 32 l
  rw [len_size] at h1
  unfold lineP
  split
  · simp only
    omega
  · split
    · simp only
      omega
    · show (0 : Int) ≤ _
      omega
theorem rd_le (s : ByteArray) (fuel : Nat) : ∀ (pages : List (List ByteArray)) (page : List ByteArray) (a : Nat), a ≤ s.size → (rd fuel s pages page a).2 ≤ (s.size : Int) := by
  induction fuel with
  | zero => intro pages page a h1; show (-1 : Int) ≤ _; omega
  | succ fuel ih =>
    intro pages page a h1
    have hll := lineLen_le s a h1
    have hlp := line_place (s.extract a (a + lineLen s a))
    have hz : (s.extract a (a + lineLen s a)).size = lineLen s a := by simp; omega
    rw [rd_step]
    split
    · split
      · exact ih _ _ _ (by omega)
      · split
        · simp only
          omega
        · split
          · simp only
            omega
          · rename_i h2 h3 h4 h5
            have h6 : a + lineLen s a ≠ s.size := fun h => h5 (.inl h)
            exact ih _ _ _ (by omega)
    · split
      · show (-1 : Int) ≤ _
        omega
      · exact Int.le_refl _
theorem read_at (s : ByteArray) (hs : s.size ≤ 600000) : ∃ K, ∀ k, K ≤ k → brf_Read.f k s = some (outP (rd (s.size + 1) s [] [] 0)) := by
  obtain ⟨K1, hK1⟩ := brf_go s hs (s.size + 1) [] [] 0 (by omega) (by omega) (by simp; omega) (by simp; omega)
  refine ⟨K1, fun k hk => ?_⟩
  rw [brf_Read.f, if_neg (by omega)]
  exact at_rounds (g := fun k => brf_Read.l0 k s [] 0 []) (fun k => (brf_Read.mono_l k).1 _ _ _ _) (k := K1) (k' := k) hk hK1
theorem same_all (x : List (List ByteArray)) (hx : x.length ≤ 100000) (hxp : ∀ p ∈ x, p.length ≤ 100000) (K : Nat) : ∃ M, K ≤ M ∧ ∀ k, M ≤ k → stylusref27_Same.f k x x = some true := by
  obtain ⟨K3, hK3⟩ := same_at x (by omega) (fun p hp => Nat.le_trans (hxp p hp) (by decide))
  exact ⟨K3 + K, by omega, fun k hk => hK3 k (by omega)⟩
end Go.Proofs.YtnepacpbpbbbhaaDoor.PureB
