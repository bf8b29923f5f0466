/- The reference's cells and trimming, as the program's. -/
import Derived.Test.YtnepacpbpbbbhaaDoorPureBrfReads2
namespace Go.Proofs.YtnepacpbpbbbhaaDoor.PureB
open Go.RowKit Go.Proofs.YtnepacpbpbbbhaaDoor.PBrf Go.Proofs.YtnepacpbpbbbhaaDoor.G Go.Proofs.YtnepacpbpbbbhaaDoorW.PrintWords Go.Proofs.YtnepacpbpbbbhaaDoorW.PrintLast

theorem trim_go32 (n : Nat) : ∀ (s : ByteArray) (k : Nat), s.size = n → n ≤ 1000000 → n + 1 ≤ k → stylusref27_trim.l0 k s 32 = some (trimF 32 s) := by
  induction n with
  | zero =>
    intro s k hs hn hk
    obtain ⟨k, rfl⟩ : ∃ m, k = m + 1 := ⟨k - 1, by omega⟩
    rw [stylusref27_trim.l0, if_neg (by omega)]
    have h0 : s.data.toList = [] := List.length_eq_zero_iff.1 (by rw [len_size]; exact hs)
    refine congrArg some (text_eq ?_)
    rw [trimF, mk_data, h0]
    rfl
  | succ n ih =>
    intro s k hs hn hk
    obtain ⟨k, rfl⟩ : ∃ m, k = m + 1 := ⟨k - 1, by omega⟩
    have hlt : n < s.size := by omega
    have hz : s[n].toNat < 256 := s[n].toNat_lt
    have hw : wrap64 ((s.size : Int) - 1) = (n : Int) := by rw [wrap_of (by omega) (by omega)]; omega
    have he : (s.extract 0 n).data.toList = s.data.toList.take n := by simp
    have hl : s.data.toList = (s.extract 0 n).data.toList ++ [s[n]] := by
      have h1 := drop_at s n hlt
      have h2 : s.data.toList.drop (n + 1) = [] := List.drop_of_length_le (by rw [len_size]; omega)
      rw [h2] at h1
      rw [he, ← h1, List.take_append_drop]
    have hts : trimF 32 s = if (s[n] == 32) = true then trimF 32 (s.extract 0 n) else s := by
      apply text_eq
      rw [trimF, mk_data, hl, trim_list]
      split
      · rfl
      · exact hl.symm
    rw [stylusref27_trim.l0, if_pos (by omega), hw, if_pos (by omega), if_pos (by omega), bt_of s n hlt, hts]
    by_cases h0 : s[n] = 32
    · rw [if_pos (by rw [h0]; rfl), if_pos (by omega), if_pos (by rw [h0]; rfl), Int.toNat_natCast]
      exact ih _ _ (by simp; omega) (by omega) (by omega)
    · have h0n : ¬ (s[n].toNat : Int) = 32 := fun h => h0 (UInt8.toNat_inj.1 (by rw [show s[n].toNat = 32 from by omega]; rfl))
      rw [if_neg h0n, if_neg (by simpa using h0)]
theorem from_at (k c : Nat) (hk : 100 ≤ k) (hc : c < 256) : stylusref02_From.f k (c : Int) = some (fromF (c : Int)) := by
  have h : ∀ c : Fin 256, stylusref02_From.f 100 (c.val : Int) = some (fromF (c.val : Int)) := by decide +kernel
  exact at_rounds (g := fun k => stylusref02_From.f k (c : Int)) (fun k => stylusref02_From.mono _ k) hk (h ⟨c, hc⟩)

theorem cells_go (s : ByteArray) (hs : s.size ≤ 10000) (fuel : Nat) : ∀ (k i : Nat) (acc : List Int), i + fuel = s.size → acc.length = i → fuel + 110 ≤ k →
    stylusref02_Cells.l0 k s acc (i : Int) = some (if 0 ≤ (eachGo fromF (s.data.toList.drop i) acc (i : Int)).2 then (⟨#[]⟩, (eachGo fromF (s.data.toList.drop i) acc (i : Int)).2, 2) else (strOfNums (eachGo fromF (s.data.toList.drop i) acc (i : Int)).1, 0, 0)) := by
  induction fuel with
  | zero =>
    intro k i acc hi hl hk
    obtain ⟨k, rfl⟩ : ∃ m, k = m + 1 := ⟨k - 1, by omega⟩
    rw [stylusref02_Cells.l0, if_neg (by omega), List.drop_of_length_le (by simp; omega), eachGo]
    rfl
  | succ fuel ih =>
    intro k i acc hi hl hk
    obtain ⟨k, rfl⟩ : ∃ m, k = m + 1 := ⟨k - 1, by omega⟩
    have hlt : i < s.size := by omega
    have hb := s[i].toNat_lt
    rw [stylusref02_Cells.l0, if_pos (by omega), if_pos (by omega), bt_of s i hlt, from_at k _ (by omega) (by omega), Option.bind_some, drop_at s i hlt, eachGo]
    by_cases h : (fromF (s[i].toNat : Int)).2 = true
    · rw [if_pos h, if_pos h, if_pos (by omega), wrap_of (x := (i : Int) + 1) (by omega) (by omega)]
      exact ih k (i + 1) _ (by omega) (by simp; omega) (by omega)
    · rw [if_neg h, if_neg h]
      simp only
      rw [if_pos (by omega)]
theorem cells_same (s : ByteArray) (hs : s.size ≤ 10000) (k : Nat) (hk : s.size + 200 ≤ k) : stylusref02_Cells.f k s = cell_Cells.f s := by
  have h := cells_go s hs s.size k 0 [] (by omega) rfl (by omega)
  unfold cell_Cells.f
  rw [if_pos (by omega)]
  exact h

end Go.Proofs.YtnepacpbpbbbhaaDoor.PureB
