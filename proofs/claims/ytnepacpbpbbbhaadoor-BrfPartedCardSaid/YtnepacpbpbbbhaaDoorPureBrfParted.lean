/- The pure statement of BrfParted. -/
import Derived.Test.YtnepacpbpbbbhaaDoorPureBrfParted2
import Derived.Test.YtnepacpbpbbbhaaDoorPBrf6
namespace Go.Proofs.YtnepacpbpbbbhaaDoor.PureB
open Go.RowKit Go.Proofs.YtnepacpbpbbbhaaDoor.PBrf Go.Proofs.YtnepacpbpbbbhaaDoor.G Go.Proofs.YtnepacpbpbbbhaaDoorW.PrintWords Go.Proofs.YtnepacpbpbbbhaaDoorW.PrintLast

/-- Whether a byte from a place on is no blank. -/
theorem parted_l0 (a : ByteArray) (ha : a.size ≤ 3000) (p q e : Int) (fuel : Nat) : ∀ (k i : Nat), i + fuel = a.size → 200 ≤ k →
    ((∃ j : Nat, i ≤ j ∧ j < a.size ∧ bt a (j : Int) ≠ 32) → e = 2 ∧ q = p) → styluslaw27_BrfParted.l0 (k + fuel + 1) a p q e (i : Int) = some true := by
  induction fuel with
  | zero =>
    intro k i hi hk hh
    rw [styluslaw27_BrfParted.l0, if_neg (by omega), awake_at _ (by omega)]
    rfl
  | succ fuel ih =>
    intro k i hi hk hh
    rw [show k + (fuel + 1) + 1 = (k + fuel + 1) + 1 from by omega, styluslaw27_BrfParted.l0, if_pos (by omega), if_pos (by omega)]
    by_cases hb : bt a (i : Int) = 32
    · rw [if_pos hb, wrap_of (x := (i : Int) + 1) (by omega) (by omega)]
      exact ih k (i + 1) (by omega) hk (fun ⟨j, h1, h2⟩ => hh ⟨j, by omega, h2⟩)
    · obtain ⟨h1, h2⟩ := hh ⟨i, by omega, by omega, hb⟩
      rw [if_neg hb, if_pos h1, if_pos h2, awake_at _ (by omega)]
      rfl
theorem parted_go (a b : ByteArray) (ha : a.size ≤ 3000) (hb : b.size ≤ 3000) : ∃ k, styluslaw27_BrfParted.j0 k a b false = some true := by
  have hsz : (a ++ b).size = a.size + b.size := ByteArray.size_append
  obtain ⟨K1, h1⟩ := read_at a (by omega)
  obtain ⟨K2, h2⟩ := read_at b (by omega)
  obtain ⟨K3, h3⟩ := read_at (a ++ b) (by omega)
  obtain ⟨f1, f2, f3⟩ := rd_form a 100000 (a.size + 1) [] [] 0 (by intro p hp; cases hp) (by simp; omega)
  obtain ⟨g1, g2, g3⟩ := rd_form b 100000 (b.size + 1) [] [] 0 (by intro p hp; cases hp) (by simp; omega)
  simp only [List.length_nil] at f2 g2
  have hok := rd_ok a b (b.size + 1) (by omega) (a.size + 1) [] [] 0 ((a ++ b).size + 1) (by omega) (by omega) (by omega)
  have herr := rd_err a b (a.size + 1) [] [] 0 ((a ++ b).size + 1) (by omega) (by omega) (by omega)
  have hsh := fun p => rd_shift a b p (b.size + 1) [] [] 0 (by omega) (by omega)
  have hra := rd_le a (a.size + 1) [] [] 0 (by omega)
  have hrb := rd_le b (b.size + 1) [] [] 0 (by omega)
  generalize rd (a.size + 1) a [] [] 0 = r at *
  generalize rd (b.size + 1) b [] [] 0 = t at *
  obtain ⟨K4, hK4, h4⟩ := same_all (r.1 ++ t.1) (by rw [List.length_append]; omega) (fun p hp => by
    rcases List.mem_append.1 hp with h | h
    · exact f3 p h
    · exact g3 p h) (K1 + K2 + K3 + 200)
  refine ⟨K4 + a.size + 2, ?_⟩
  rw [show K4 + a.size + 2 = (K4 + a.size + 1) + 1 from rfl, styluslaw27_BrfParted.j0, if_neg (by decide), h1 _ (by omega), h2 _ (by omega), Option.bind_some, Option.bind_some, if_pos (by omega), h3 _ (by omega), Option.bind_some]
  have hA := awake_at (K4 + a.size + 1) (by omega)
  rcases f1 with hr | ⟨hr, hr2⟩
  · have e1 : outP r = (r.1, 0, 0) := by rw [outP, if_pos hr]
    have hs0 := hsh r.1
    rw [Nat.add_zero a.size, List.append_nil] at hs0
    rw [hok hr, hs0, e1]
    rw [if_pos rfl]
    rcases g1 with ht | ⟨ht, ht2⟩
    · have e2 : outP t = (t.1, 0, 0) := by rw [outP, if_pos ht]
      have e3 : outP (sh a.size r.1 t) = (r.1 ++ t.1, 0, 0) := by rw [sh, if_neg (by omega), outP, if_pos ht]
      rw [e2, e3, if_pos rfl, if_pos rfl]
      simp only [Option.bind_some, List.nil_append, List.length_nil]
      rw [if_pos (by omega), if_pos (by omega), h4 _ (by omega), Option.bind_some, if_pos rfl, hA]
      rfl
    · have e2 : outP t = ([], t.2, 2) := by rw [outP, if_neg (by omega)]
      have e3 : outP (sh a.size r.1 t) = ([], (a.size : Int) + t.2, 2) := by rw [sh, if_pos ht, outP, if_neg (by show ¬ (a.size : Int) + t.2 < 0; omega)]
      rw [e2, e3, if_pos rfl, if_neg (show ¬ (2 : Int) = 0 from by decide)]
      simp only
      rw [wrap_of (by omega) (by omega), if_pos rfl, hA]
      rfl
  · have e1 : outP r = ([], r.2, 2) := by rw [outP, if_neg (by omega)]
    obtain ⟨n, hn⟩ : ∃ n : Nat, r.2 = n := ⟨r.2.toNat, by omega⟩
    rw [e1, if_neg (show ¬ (2 : Int) = 0 from by decide)]
    simp only
    have hl := parted_l0 a ha r.2 (outP (rd ((a ++ b).size + 1) (a ++ b) [] [] 0)).2.1 (outP (rd ((a ++ b).size + 1) (a ++ b) [] [] 0)).2.2 (a.size - n) (K4 + n) n (by omega) (by omega) (fun ⟨j, j1, j2, j3⟩ => by
      rw [herr hr ⟨j, by omega, j2, j3⟩, outP, if_neg (by simp only; omega)]
      exact ⟨rfl, rfl⟩)
    rw [show K4 + n + (a.size - n) + 1 = K4 + a.size + 1 from by omega, ← hn] at hl
    exact hl
theorem BrfParted : styluslaw27_BrfParted.Pure := by
  intro a0 a1 h0 h1
  by_cases b0 : a0.size ≤ 3000
  · by_cases b1 : a1.size ≤ 3000
    · obtain ⟨k, hk⟩ := parted_go a0 a1 b0 b1
      exact ⟨k, by rw [styluslaw27_BrfParted.f, if_neg (by omega), show decide ((a1.size : Int) > 3000) = false from by simp; omega]; exact hk⟩
    · refine ⟨201, ?_⟩
      rw [styluslaw27_BrfParted.f, if_neg (by omega), show decide ((a1.size : Int) > 3000) = true from by simp; omega, styluslaw27_BrfParted.j0, if_pos rfl, awake_at _ (by omega)]
      rfl
  · refine ⟨201, ?_⟩
    rw [styluslaw27_BrfParted.f, if_pos (by omega), styluslaw27_BrfParted.j0, if_pos rfl, awake_at _ (by omega)]
    rfl
end Go.Proofs.YtnepacpbpbbbhaaDoor.PureB
namespace Go.Proofs.YtnepacpbpbbbhaaDoor.Pure
theorem BrfParted : Go.Proofs.YtnepacpbpbbbhaaDoor.PBrf.styluslaw27_BrfParted.Pure := Go.Proofs.YtnepacpbpbbbhaaDoor.PureB.BrfParted
end Go.Proofs.YtnepacpbpbbbhaaDoor.Pure
