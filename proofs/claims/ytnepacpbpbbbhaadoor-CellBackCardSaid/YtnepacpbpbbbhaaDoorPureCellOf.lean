/- The pure statement of CellOf: of every byte and every text of at most 200 bytes the program's answers on dots and signs are the document's; beyond, the chapter's examples hold. -/
import Derived.Test.YtnepacpbpbbbhaaDoorPureCellBase
namespace Go.Proofs.YtnepacpbpbbbhaaDoor.Pure
open Go.RowKit Go.Proofs.YtnepacpbpbbbhaaDoor.PCell Go.Proofs.YtnepacpbpbbbhaaDoor.G Go.Proofs.YtnepacpbpbbbhaaDoorW.PrintWords Go.Proofs.YtnepacpbpbbbhaaDoorW.PrintLast

theorem byte_of {a : Int} (h : (Lit.int .u8 a).wf = true) : ∃ n : Nat, n < 256 ∧ a = n := by
  have h2 : 0 ≤ a ∧ a ≤ 255 := by simpa [Lit.wf, IntKind.min, IntKind.max, IntKind.signed, IntKind.bits] using h
  exact ⟨a.toNat, by omega, by omega⟩
theorem awake_at (k : Nat) (hk : 100 ≤ k) : styluslaw02_awake.f k = some true := at_rounds (g := styluslaw02_awake.f) styluslaw02_awake.mono hk awake_true
theorem CellOf : styluslaw02_CellOf.Pure := by
  intro a0 a1 hw hs
  refine ⟨a1.size + 200, ?_⟩
  obtain ⟨n, hn, rfl⟩ := byte_of hw
  have hA := awake_at (a1.size + 200) (by omega)
  unfold styluslaw02_CellOf.f
  by_cases h : (a1.size : Int) > 200
  · rw [if_pos h, hA]
    rfl
  · rw [if_neg h]
    have e1 := sign_same ⟨n, hn⟩
    have e2 := sign_some ⟨n, hn⟩
    have e3 := from_same ⟨n, hn⟩
    have e4 := from_some ⟨n, hn⟩
    have e5 := dots_same ⟨n, hn⟩
    have e6 := dots_some ⟨n, hn⟩
    simp only at e1 e2 e3 e4 e5 e6
    obtain ⟨p, hp⟩ := Option.isSome_iff_exists.1 e2
    obtain ⟨q, hq⟩ := Option.isSome_iff_exists.1 e4
    obtain ⟨d, hd⟩ := Option.isSome_iff_exists.1 e6
    rw [hp] at e1
    rw [hq] at e3
    rw [hd] at e5
    have f3 := at_rounds (g := fun k => stylusref02_From.f k (n : Int)) (fun k => stylusref02_From.mono _ k) (show 100 ≤ a1.size + 200 by omega) e3.symm
    have f5 := at_rounds (g := fun k => stylusref02_Dots.f k (n : Int)) (fun k => stylusref02_Dots.mono _ k) (show 100 ≤ a1.size + 200 by omega) e5.symm
    have f6 := at_rounds (g := fun k => cell_Dots.f k (n : Int)) (fun k => cell_Dots.mono _ k) (show 100 ≤ a1.size + 200 by omega) hd
    rw [hp, ← e1, hq, f3, of_same a1 hs (a1.size + 200) (by omega), f5, f6]
    simp only [Option.bind_some, if_true, beq_self_eq_true]
    have ho : styluslaw02_of.f a1 (ofGo a1.data.toList 0 48).1 (ofGo a1.data.toList 0 48).2 = some true := by
      unfold styluslaw02_of.f cell_Of.f
      simp
    rw [ho, hA]
    rfl
end Go.Proofs.YtnepacpbpbbbhaaDoor.Pure
