/- Plain laws about cells: what the program's functions and the document's answer come to. -/
import Derived.Test.YtnepacpbpbbbhaaDoorPCell2
namespace Go.Proofs.YtnepacpbpbbbhaaDoor.Pure
open Go.RowKit Go.Proofs.YtnepacpbpbbbhaaDoor.PCell Go.Proofs.YtnepacpbpbbbhaaDoor.G Go.Proofs.YtnepacpbpbbbhaaDoorW.PrintWords Go.Proofs.YtnepacpbpbbbhaaDoorW.PrintLast

theorem sign_same : ∀ n : Fin 256, cell_Sign.f (n.val : Int) = stylusref02_Sign.f (n.val : Int) := by decide +kernel
theorem from_same : ∀ n : Fin 256, cell_From.f (n.val : Int) = stylusref02_From.f 100 (n.val : Int) := by decide +kernel
theorem from_some : ∀ n : Fin 256, (cell_From.f (n.val : Int)).isSome = true := by decide +kernel
theorem sign_some : ∀ n : Fin 256, (cell_Sign.f (n.val : Int)).isSome = true := by decide +kernel
theorem dots_same : ∀ n : Fin 256, cell_Dots.f 100 (n.val : Int) = stylusref02_Dots.f 100 (n.val : Int) := by decide +kernel
theorem dots_some : ∀ n : Fin 256, (cell_Dots.f 100 (n.val : Int)).isSome = true := by decide +kernel
theorem awake_true : styluslaw02_awake.f 100 = some true := by decide +kernel
theorem wrap_of {x : Int} (h0 : -9223372036854775808 ≤ x) (h1 : x ≤ 9223372036854775807) : wrap64 x = x := by unfold wrap64; omega
theorem bt_of (s : ByteArray) (n : Nat) (h : n < s.size) : bt s n = (s[n].toNat : Int) := by simp [bt, h]
theorem weight_some : ∀ d : Fin 7, stylusref02_weight.f 10 (d.val : Int) = some (if d.val = 0 then 1 else 2 ^ (d.val - 1)) := by decide +kernel
theorem or_small : ∀ (c : Fin 64) (d : Fin 6), c.val < 2 ^ d.val → Go.bits .or .u8 (c.val : Int) (2 ^ d.val % 256) = (c.val : Int) + 2 ^ d.val := by decide +kernel
theorem weight_at (k : Nat) (hk : 10 ≤ k) (d : Nat) (h1 : 1 ≤ d) (h6 : d ≤ 6) : stylusref02_weight.f k (d : Int) = some (2 ^ (d - 1)) := by
  have h := weight_some ⟨d, by omega⟩
  simp only at h
  rw [if_neg (by omega)] at h
  exact at_rounds (g := fun k => stylusref02_weight.f k (d : Int)) (fun k => stylusref02_weight.mono _ k) hk h

/-- The document's answer on dots is the program's. -/
theorem of_go (s : ByteArray) (hs : s.size ≤ 140737488351232) (fuel : Nat) : ∀ (k i last sum : Nat), i + fuel = s.size → fuel + 12 ≤ k → last ≤ 6 → sum < 2 ^ last → (sum = 0 ↔ i = 0) →
    stylusref02_Of.l0 k s (sum : Int) (last : Int) (i : Int) = some (ofGo (s.data.toList.drop i) (sum : Int) ((last : Int) + 48)) := by
  have p6 : ∀ l, l ≤ 6 → 2 ^ l ≤ 64 := fun l hl => by
    have : l = 0 ∨ l = 1 ∨ l = 2 ∨ l = 3 ∨ l = 4 ∨ l = 5 ∨ l = 6 := by omega
    rcases this with rfl | rfl | rfl | rfl | rfl | rfl | rfl <;> decide
  induction fuel with
  | zero =>
    intro k i last sum hi hk hl hsum h0
    obtain ⟨k, rfl⟩ : ∃ m, k = m + 1 := ⟨k - 1, by omega⟩
    have hs6 := p6 last hl
    simp only [stylusref02_Of.l0]
    rw [if_neg (by omega), List.drop_of_length_le (by simp; omega), ofGo]
    congr 1
    refine Prod.ext ?_ ?_
    · show ((sum : Int)) % 256 = sum
      omega
    · show decide ((s.size : Int) > 0) = ((sum : Int) != 0)
      rw [Bool.eq_iff_iff]
      simp
      omega
  | succ fuel ih =>
    intro k i last sum hi hk hl hsum h0
    obtain ⟨k, rfl⟩ : ∃ m, k = m + 1 := ⟨k - 1, by omega⟩
    have hlt : i < s.size := by omega
    have hs6 := p6 last hl
    have hb := s[i].toNat_lt
    simp only [stylusref02_Of.l0]
    rw [if_pos (by omega), if_pos (by omega), drop_at s i hlt, ofGo, bt_of s i hlt, wrap_of (x := (s[i].toNat : Int)) (by omega) (by omega), wrap_of (x := (s[i].toNat : Int) - 48) (by omega) (by omega)]
    by_cases h1 : ((s[i].toNat : Int) - 48) < 1
    · rw [if_pos h1, if_pos (Or.inl (by omega))]
    · rw [if_neg h1]
      by_cases h2 : ((s[i].toNat : Int) - 48) > 6
      · rw [if_pos h2, if_pos (Or.inr (by omega))]
      · rw [if_neg h2]
        by_cases h3 : ((s[i].toNat : Int) - 48) ≤ last
        · rw [if_pos h3, if_pos (Or.inl (by omega))]
        · rw [if_neg h3, if_neg (by omega)]
          obtain ⟨d, hd⟩ : ∃ d : Nat, s[i].toNat = d + 49 := ⟨s[i].toNat - 49, by omega⟩
          have hw := weight_at k (by omega) (d + 1) (by omega) (by omega)
          rw [hd, show (((d + 49 : Nat) : Int) - 48) = ((d + 1 : Nat) : Int) from by omega, hw]
          simp only [Option.bind_some, Nat.add_sub_cancel]
          have hpd : 2 ^ last ≤ 2 ^ d := Nat.pow_le_pow_right (by decide) (by omega)
          have hp6 := p6 (d + 1) (by omega)
          rw [Nat.pow_succ] at hp6
          have ho := or_small ⟨sum, by omega⟩ ⟨d, by omega⟩ (by show sum < 2 ^ d; omega)
          simp only at ho
          rw [ho, wrap_of (x := (sum : Int) + 2 ^ d) (by have : (2 : Int) ^ d = ((2 ^ d : Nat) : Int) := by simp
                                                         omega) (by have : (2 : Int) ^ d = ((2 ^ d : Nat) : Int) := by simp
                                                                    omega), wrap_of (x := (i : Int) + 1) (by omega) (by omega)]
          have h := ih k (i + 1) (d + 1) (sum + 2 ^ d) (by omega) (by omega) (by omega) (by rw [Nat.pow_succ]; omega) (by have : 0 < 2 ^ d := Nat.pow_pos (by decide); omega)
          rw [show ((i + 1 : Nat) : Int) = (i : Int) + 1 from by omega, show ((sum + 2 ^ d : Nat) : Int) = (sum : Int) + 2 ^ d from by simp, show (((d + 1 : Nat) : Int) + 48) = ((d + 49 : Nat) : Int) from by omega] at h
          exact h
theorem of_same (s : ByteArray) (hs : s.size ≤ 140737488351232) (k : Nat) (hk : s.size + 12 ≤ k) : stylusref02_Of.f k s = some (ofGo s.data.toList 0 48) := by
  have h := of_go s hs s.size k 0 0 0 (by omega) hk (by omega) (by decide) (by simp)
  simpa [stylusref02_Of.f] using h
end Go.Proofs.YtnepacpbpbbbhaaDoor.Pure
