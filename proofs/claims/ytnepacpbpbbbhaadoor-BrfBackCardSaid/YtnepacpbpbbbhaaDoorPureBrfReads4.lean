/- The reference's Read as the plain function. -/
import Derived.Test.YtnepacpbpbbbhaaDoorPureBrfReads3
namespace Go.Proofs.YtnepacpbpbbbhaaDoor.PureB
open Go.RowKit Go.Proofs.YtnepacpbpbbbhaaDoor.PBrf Go.Proofs.YtnepacpbpbbbhaaDoor.G Go.Proofs.YtnepacpbpbbbhaaDoorW.PrintWords Go.Proofs.YtnepacpbpbbbhaaDoorW.PrintLast

theorem bt_12 (s : ByteArray) (i : Nat) (h : i < s.size) : (bt s (i : Int) = 12 ↔ s[i] = 12) ∧ (bt s (i : Int) = 10 ↔ s[i] = 10) := by
  rw [bt_of s i h]
  refine ⟨⟨fun h1 => UInt8.toNat_inj.1 ?_, fun h1 => by rw [h1]; rfl⟩, ⟨fun h1 => UInt8.toNat_inj.1 ?_, fun h1 => by rw [h1]; rfl⟩⟩
  · rw [show s[i].toNat = 12 from by omega]; rfl
  · rw [show s[i].toNat = 10 from by omega]; rfl
/-- Ahead of a line's end no byte ends a line; the byte at its end does. -/
theorem any_spec : ∀ (l : List UInt8), (Lib.indexAny l [10, 12] < 0 → ∀ x ∈ l, x ≠ 10 ∧ x ≠ 12) ∧ (0 ≤ Lib.indexAny l [10, 12] → (∀ j, j < (Lib.indexAny l [10, 12]).toNat → ∀ x, l[j]? = some x → x ≠ 10 ∧ x ≠ 12) ∧ ∃ x, l[(Lib.indexAny l [10, 12]).toNat]? = some x ∧ (x = 10 ∨ x = 12))
  | [] => ⟨(by intro _ x hx; cases hx), fun h => absurd h (by show ¬ (0 : Int) ≤ -1; decide)⟩
  | b :: l => by
    obtain ⟨i1, i2⟩ := any_spec l
    have hge := Lib.indexAny_ge [10, 12] l
    unfold Lib.indexAny
    by_cases h : ([10, 12] : List UInt8).contains b = true
    · rw [if_pos h]
      have hb : b = 10 ∨ b = 12 := by simpa using h
      exact ⟨fun h => absurd h (by decide), fun _ => ⟨fun j hj => absurd hj (by show ¬ j < 0; omega), b, rfl, hb⟩⟩
    · rw [if_neg h]
      have hb : b ≠ 10 ∧ b ≠ 12 := by simpa using h
      by_cases h2 : Lib.indexAny l [10, 12] = -1
      · rw [if_pos (by simpa using h2)]
        refine ⟨fun _ x hx => ?_, fun h => absurd h (by decide)⟩
        rcases List.mem_cons.1 hx with rfl | hx
        · exact hb
        · exact i1 (by omega) x hx
      · rw [if_neg (by simpa using h2)]
        obtain ⟨g1, g2⟩ := i2 (by omega)
        refine ⟨fun h => by omega, fun _ => ?_⟩
        have ht : (Lib.indexAny l [10, 12] + 1).toNat = (Lib.indexAny l [10, 12]).toNat + 1 := by omega
        rw [ht]
        refine ⟨fun j hj x hx => ?_, ?_⟩
        · cases j with
          | zero => simp at hx; subst hx; exact hb
          | succ j => exact g1 j (by omega) x (by simpa using hx)
        · simpa using g2
/-- Going over a byte that ends no line. -/
theorem ref_skip (s : ByteArray) (hs : s.size ≤ 10000) (pages : List (List ByteArray)) (page : List ByteArray) (a : Nat) (d : Nat) : ∀ (k i : Nat), i + d ≤ s.size → (∀ j, i ≤ j → j < i + d → bt s (j : Int) ≠ 10 ∧ bt s (j : Int) ≠ 12) →
    stylusref27_Read.l0 (k + 2 * d) s pages page (a : Int) (i : Int) = stylusref27_Read.l0 k s pages page (a : Int) ((i + d : Nat) : Int) := by
  induction d with
  | zero => intro k i hi hb; rfl
  | succ d ih =>
    intro k i hi hb
    obtain ⟨h10, h12⟩ := hb i (Nat.le_refl _) (by omega)
    rw [show k + 2 * (d + 1) = (k + 2 * d) + 1 + 1 from by omega, stylusref27_Read.l0, if_pos (by omega), if_pos (by omega), if_pos (by omega), if_neg h10, stylusref27_Read.j1, if_pos (bne_iff_ne.2 h12), wrap_of (x := (i : Int) + 1) (by omega) (by omega)]
    have h := ih k (i + 1) (by omega) (fun j h1 h2 => hb j (by omega) (by omega))
    rw [show i + (d + 1) = i + 1 + d from by omega]
    exact h
end Go.Proofs.YtnepacpbpbbbhaaDoor.PureB
