/- Equal pages are the same; what a text that is spoilt hands back. -/
import Derived.Test.YtnepacpbpbbbhaaDoorPureBrfReads6
namespace Go.Proofs.YtnepacpbpbbbhaaDoor.PureB
open Go.RowKit Go.Proofs.YtnepacpbpbbbhaaDoor.PBrf Go.Proofs.YtnepacpbpbbbhaaDoor.G Go.Proofs.YtnepacpbpbbbhaaDoorW.PrintWords Go.Proofs.YtnepacpbpbbbhaaDoorW.PrintLast

theorem rd_form (s : ByteArray) (B : Nat) (fuel : Nat) : ∀ (pages : List (List ByteArray)) (page : List ByteArray) (a : Nat), (∀ p ∈ pages, p.length ≤ B) → page.length + fuel ≤ B →
    ((rd fuel s pages page a).2 < 0 ∨ (0 ≤ (rd fuel s pages page a).2 ∧ (rd fuel s pages page a).1 = [])) ∧ (rd fuel s pages page a).1.length ≤ pages.length + fuel ∧ ∀ p ∈ (rd fuel s pages page a).1, p.length ≤ B := by
  induction fuel with
  | zero => intro pages page a h1 h2; exact ⟨.inl (by show (-1 : Int) < 0; decide), by simp [rd], by intro p hp; cases hp⟩
  | succ fuel ih =>
    intro pages page a h1 h2
    rw [rd]
    split
    · split
      · obtain ⟨g1, g2, g3⟩ := ih (pages ++ [page]) [] (a + 1) (fun p hp => by
          rcases List.mem_append.1 hp with h | h
          · exact h1 p h
          · rw [List.mem_singleton.1 h]; omega) (by simp; omega)
        exact ⟨g1, by simp at g2; omega, g3⟩
      · split
        · refine ⟨.inr ⟨?_, rfl⟩, by simp, by intro p hp; cases hp⟩
          have := line_err2 (s.extract a (a + lineLen s a))
          rename_i h
          have h2 := this.resolve_left h
          have := h2.2
          simp only
          omega
        · split
          · exact ⟨.inr ⟨by simp only; omega, rfl⟩, by simp, by intro p hp; cases hp⟩
          · obtain ⟨g1, g2, g3⟩ := ih pages (page ++ [(lineP (s.extract a (a + lineLen s a))).1]) (a + lineLen s a + 1) h1 (by simp; omega)
            exact ⟨g1, by omega, g3⟩
    · split
      · exact ⟨.inl (by show (-1 : Int) < 0; decide), by simp, h1⟩
      · exact ⟨.inr ⟨by simp only; omega, rfl⟩, by simp, by intro p hp; cases hp⟩
theorem same_l1 (x0 : List (List ByteArray)) (hx : x0.length ≤ 1000000) (i : Nat) (p : List ByteArray) (hp : x0[i]? = some p) (hpl : p.length ≤ 1000000) (fuel : Nat) : ∀ (k j : Nat), j + fuel = p.length →
    stylusref27_Same.l1 (k + fuel + 1) x0 x0 (i : Int) (j : Int) = stylusref27_Same.l0 k x0 x0 ((i + 1 : Nat) : Int) := by
  have hi : i < x0.length := (List.getElem?_eq_some_iff.1 hp).1
  induction fuel with
  | zero =>
    intro k j hj
    rw [stylusref27_Same.l1, if_pos (by omega), if_pos (by omega), rd_at x0 i p hp, if_neg (by omega), wrap_of (x := (i : Int) + 1) (by omega) (by omega)]
    rfl
  | succ fuel ih =>
    intro k j hj
    rw [show k + (fuel + 1) + 1 = (k + fuel + 1) + 1 from by omega, stylusref27_Same.l1, if_pos (by omega), if_pos (by omega), rd_at x0 i p hp, if_pos (by omega), if_pos (by omega), if_pos (by omega), if_pos (by omega), if_pos rfl, wrap_of (x := (j : Int) + 1) (by omega) (by omega)]
    exact ih k (j + 1) (by omega)
theorem same_l0 (x0 : List (List ByteArray)) (hx : x0.length ≤ 1000000) (hxp : ∀ p ∈ x0, p.length ≤ 1000000) (fuel : Nat) : ∀ i : Nat, i + fuel = x0.length → ∃ K, stylusref27_Same.l0 K x0 x0 (i : Int) = some true := by
  induction fuel with
  | zero =>
    intro i hi
    refine ⟨1, ?_⟩
    rw [stylusref27_Same.l0, if_neg (by omega)]
  | succ fuel ih =>
    intro i hi
    obtain ⟨p, hp⟩ : ∃ p, x0[i]? = some p := ⟨x0[i], List.getElem?_eq_getElem (by omega)⟩
    obtain ⟨K, hK⟩ := ih (i + 1) (by omega)
    refine ⟨K + p.length + 1 + 1, ?_⟩
    rw [stylusref27_Same.l0, if_pos (by omega), if_pos (by omega), if_pos (by omega), if_pos rfl]
    exact (same_l1 x0 hx i p hp (hxp p (List.mem_of_getElem? hp)) p.length K 0 (by omega)).trans hK
theorem same_at (x0 : List (List ByteArray)) (hx : x0.length ≤ 1000000) (hxp : ∀ p ∈ x0, p.length ≤ 1000000) : ∃ K, ∀ k, K ≤ k → stylusref27_Same.f k x0 x0 = some true := by
  obtain ⟨K, hK⟩ := same_l0 x0 hx hxp x0.length 0 (by omega)
  refine ⟨K, fun k hk => ?_⟩
  rw [stylusref27_Same.f, if_pos rfl]
  exact at_rounds (g := fun k => stylusref27_Same.l0 k x0 x0 0) (fun k => (stylusref27_Same.mono_l k).1 _ _ _) (k := K) (k' := k) hk hK
theorem BrfReads : styluslaw27_BrfReads.Pure := by
  intro a0 h0
  by_cases hs : (a0.size : Int) > 5000
  · refine ⟨200, ?_⟩
    rw [styluslaw27_BrfReads.f, if_pos hs, awake_at _ (Nat.le_refl _)]
    rfl
  · obtain ⟨K1, hK1⟩ := brf_go a0 (by omega) (a0.size + 1) [] [] 0 (by omega) (by omega) (by simp; omega) (by simp; omega)
    obtain ⟨K2, hK2⟩ := ref_go a0 (by omega) (a0.size + 1) [] [] 0 (by omega) (by omega) (by simp; omega) (by simp; omega)
    obtain ⟨g1, g2, g3⟩ := rd_form a0 100000 (a0.size + 1) [] [] 0 (by intro p hp; cases hp) (by simp; omega)
    generalize rd (a0.size + 1) a0 [] [] 0 = r at hK1 hK2 g1 g2 g3
    obtain ⟨K3, hK3⟩ := same_at r.1 (by simp at g2; omega) (fun p hp => Nat.le_trans (g3 p hp) (by decide))
    refine ⟨K1 + K2 + K3 + 200, ?_⟩
    have e1 : brf_Read.f (K1 + K2 + K3 + 200) a0 = some (outP r) := by
      rw [brf_Read.f, if_neg (by omega)]
      exact at_rounds (g := fun k => brf_Read.l0 k a0 [] 0 []) (fun k => (brf_Read.mono_l k).1 _ _ _ _) (k := K1) (k' := K1 + K2 + K3 + 200) (by omega) hK1
    have e2 : stylusref27_Read.f (K1 + K2 + K3 + 200) a0 = some r := at_rounds (g := fun k => stylusref27_Read.l0 k a0 [] [] 0 0) (fun k => (stylusref27_Read.mono_l k).1 _ _ _ _ _) (k := K2) (k' := K1 + K2 + K3 + 200) (by omega) hK2
    have hfst : (outP r).1 = r.1 := by
      unfold outP
      rcases g1 with h | h
      · rw [if_pos h]
      · rw [if_neg (by omega), h.2]
    rw [styluslaw27_BrfReads.f, if_neg hs, e1, e2, Option.bind_some, Option.bind_some, hfst, hK3 _ (by omega), Option.bind_some, if_pos rfl]
    have hA := awake_at (K1 + K2 + K3 + 200) (by omega)
    rcases g1 with h | h
    · have ho : outP r = (r.1, 0, 0) := by rw [outP, if_pos h]
      rw [if_pos h, ho]
      simp only [↓reduceIte]
      rw [hA]
      rfl
    · have ho : outP r = ([], r.2, 2) := by rw [outP, if_neg (by omega)]
      rw [if_neg (by omega), ho, if_pos h.1]
      simp only [↓reduceIte]
      rw [hA]
      rfl
end Go.Proofs.YtnepacpbpbbbhaaDoor.PureB
