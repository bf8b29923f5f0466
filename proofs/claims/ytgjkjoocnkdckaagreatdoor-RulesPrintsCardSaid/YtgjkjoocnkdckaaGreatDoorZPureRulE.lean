import Derived.Test.YtgjkjoocnkdckaaGreatDoorZPureRul9
import Derived.Test.YtgjkjoocnkdckaaGreatDoorZPChk15
import Derived.Test.YtgjkjoocnkdckaaGreatDoorZPChk14
namespace Go.Proofs.YtgjkjoocnkdckaaGreatDoor.PureC
open Go.RowKit Go.Proofs.YtgjkjoocnkdckaaGreatDoor.PChk Go.Proofs.YtgjkjoocnkdckaaGreatDoor.G Go.Proofs.YtgjkjoocnkdckaaGreatDoor.PureD Go.Proofs.YtgjkjoocnkdckaaGreatDoorW.PrintWords Go.Proofs.YtgjkjoocnkdckaaGreatDoorW.PrintLast
set_option linter.unusedSimpArgs false
theorem dots_same : ∀ c : Fin 256, cell_Dots.f 100 (c.val : Int) = r2_Dots.f 100 (c.val : Int) := by decide +kernel
theorem refDots_at (k c : Nat) (hk : 100 ≤ k) (hc : c < 256) : r2_Dots.f k (c : Int) = some (dotsOf c) := by
  have h := dots_same ⟨c, hc⟩
  simp only at h
  rw [dotsOf_at 100 c (Nat.le_refl _) hc] at h
  exact at_rounds (g := fun k => r2_Dots.f k (c : Int)) (fun k => r2_Dots.mono _ k) hk h.symm
theorem refprint_go (s : ByteArray) (hs : s.size ≤ 4) (h1 : 1 ≤ s.size) (fuel : Nat) : ∀ (k i : Nat) (x : ByteArray), i + fuel = s.size → (s.data.toList.take i).all okc = true → x.data.toList = jd (s.data.toList.take i) → 2 * fuel + 110 ≤ k →
    r2_Print.l0 k s x (i : Int) = some (printOf s.data.toList) := by
  induction fuel with
  | zero =>
    intro k i x hi ha hx hk
    obtain ⟨k, rfl⟩ : ∃ m, k = m + 1 := ⟨k - 1, by omega⟩
    have hfull : s.data.toList.take i = s.data.toList := List.take_of_length_le (by simp; omega)
    have hlen : s.data.toList.length = s.size := by simp
    rw [hfull] at ha hx
    rw [r2_Print.l0, if_neg (by omega), printOf, if_pos ⟨ha, by omega, by omega⟩]
    rw [show x = ⟨(jd s.data.toList).toArray⟩ from text_eq hx]
  | succ fuel ih =>
    intro k i x hi ha hx hk
    obtain ⟨k, rfl⟩ : ∃ m, k = m + 2 := ⟨k - 2, by omega⟩
    have hlt : i < s.size := by omega
    have hb := s[i].toNat_lt
    have hget : s.data.toList[i]? = some s[i] := by rw [List.getElem?_eq_getElem (by simpa using hlt)]; rfl
    have hno : okc s[i] = false → printOf s.data.toList = (⟨#[]⟩, 1) := fun h => by
      unfold printOf
      rw [if_neg (fun h2 => by
        have h3 := List.all_eq_true.1 h2.1 s[i] (List.mem_of_getElem? hget)
        rw [h] at h3
        cases h3)]
    have e : s.data.toList.take (i + 1) = s.data.toList.take i ++ [s[i]] := by rw [List.take_add_one, hget]; rfl
    have hjl := jd_len (s.data.toList.take i)
    have htl : (s.data.toList.take i).length ≤ i := List.length_take_le _ _
    have hxs : x.size ≤ 36 := by have : x.size = x.data.toList.length := by simp
                                 rw [this, hx]; omega
    have hds : (dotsOf s[i].toNat).size ≤ 8 := by have := dl_len s[i]; simpa [dl] using this
    rw [r2_Print.l0, if_pos (by omega), if_pos (by omega), bt_of s i hlt]
    by_cases h0 : s[i].toNat = 0
    · rw [if_pos (by omega), r2_Print.j2, if_pos rfl, hno (by simp [okc, h0])]
    · rw [if_neg (by omega)]
      by_cases h64 : s[i].toNat < 64
      · rw [show decide ((s[i].toNat : Int) > 63) = false from by simp; omega, r2_Print.j2, if_neg (by decide), bt_of s i hlt, refDots_at k _ (by omega) hb]
        have hall : (s.data.toList.take (i + 1)).all okc = true := by rw [e, List.all_append, ha]; simp [okc]; omega
        by_cases hi0 : i = 0
        · subst hi0
          rw [if_neg (by omega), if_pos (by omega), if_pos (by omega), Option.bind_some, if_pos (by omega), wrap_of (x := ((0 : Nat) : Int) + 1) (by omega) (by omega)]
          refine ih k 1 _ (by omega) hall ?_ (by omega)
          rw [e]
          have hx0 : x.data.toList = [] := by rw [hx]; rfl
          simp only [List.take_zero, List.nil_append, jd_one, ByteArray.data_append, Array.toList_append, hx0]
          rfl
        · have hs1 : (x ++ (⟨#[45]⟩ : ByteArray)).size = x.size + 1 := by rw [ByteArray.size_append]; rfl
          rw [if_pos (by omega), if_pos (by omega), if_pos (by omega), if_pos (by omega), Option.bind_some, if_pos (by omega), wrap_of (x := (i : Int) + 1) (by omega) (by omega)]
          refine ih k (i + 1) _ (by omega) hall ?_ (by omega)
          rw [e, jd_snoc _ _ (fun h => by have h5 := congrArg List.length h; rw [List.length_take, show s.data.toList.length = s.size from by simp, List.length_nil] at h5; omega), ← hx]
          simp [ByteArray.data_append, dl]
      · rw [show decide ((s[i].toNat : Int) > 63) = true from by simp; omega, r2_Print.j2, if_pos rfl, hno (by simp [okc]; omega)]
theorem refprint_at (s : ByteArray) (hs : s.size ≤ 2000) (k : Nat) (hk : s.size + 200 ≤ k) : r2_Print.f k s = some (printOf s.data.toList) := by
  obtain ⟨k, rfl⟩ : ∃ m, k = m + 1 := ⟨k - 1, by omega⟩
  have hlen : s.data.toList.length = s.size := by simp
  unfold r2_Print.f
  by_cases h0 : s.size = 0
  · rw [if_pos (by omega), r2_Print.j0, if_pos rfl, printOf, if_neg (by omega)]
  · rw [if_neg (by omega), r2_Print.j0]
    by_cases h4 : 4 < s.size
    · rw [if_pos (by simp; omega), printOf, if_neg (by omega)]
    · rw [if_neg (by simp; omega)]
      exact refprint_go s (by omega) (by omega) s.size k 0 ⟨#[]⟩ (by omega) rfl rfl (by omega)
theorem print_ref (s : ByteArray) (hs : s.size ≤ 2000) (k : Nat) (hk : s.size + 200 ≤ k) : ∃ t e, r2_Print.f k s = some (t, e) ∧ (e == 0) = printB s := by
  obtain ⟨t, e, h, he⟩ := print_check s (by omega) k (by omega)
  rw [print_at s hs k hk] at h
  exact ⟨t, e, by rw [refprint_at s hs k hk]; exact h, he⟩
theorem may_ref (x : S47) (k : Nat) (h1 : x.f1.size ≤ 100000) (h2 : x.f2.size ≤ 2000) (hk : x.f1.size + x.f2.size + 300 ≤ k) : r8_May.f k x.f0 x.f1 x.f2 x.f3 x.f4 = some (mayB x) := by
  obtain ⟨k, rfl⟩ : ∃ m, k = m + 1 := ⟨k - 1, by omega⟩
  obtain ⟨t, e, hp, he⟩ := print_ref x.f2 h2 k (by omega)
  unfold r8_May.f mayB
  by_cases hlo : x.f0 < 1
  · rw [if_pos hlo, r8_May.j0, if_pos rfl, decide_eq_false (by omega)]; rfl
  · rw [if_neg hlo]
    by_cases hhi : x.f0 > 8
    · rw [if_pos hhi, r8_May.j0, if_pos rfl, decide_eq_false (by omega)]; rfl
    · rw [if_neg hhi, left_ref x.f0 x.f1 h1 (k + 1) (by omega), Option.bind_some, decide_eq_true (by omega : 1 ≤ x.f0 ∧ x.f0 ≤ 8), Bool.true_and, r8_May.j0]
      by_cases hl : leftB x.f0 x.f1 = true
      · rw [hl, if_neg (by decide), hp, Option.bind_some, Bool.true_and]
        by_cases h0 : e = 0
        · rw [← he, h0, if_pos rfl]
          by_cases h5 : x.f0 ≤ 5
          · rw [if_pos h5, if_pos h5]
            by_cases h3 : x.f3 ≥ 0
            · rw [if_pos h3]
              simp only [beq_self_eq_true, Bool.true_and, Option.some.injEq, decide_eq_decide]
              omega
            · rw [if_neg h3, decide_eq_false (by omega)]; rfl
          · rw [if_neg h5, if_neg h5]; rfl
        · rw [← he, if_neg h0, beq_eq_false_iff_ne.2 h0]; rfl
      · rw [Bool.eq_false_iff.2 hl, if_pos (by decide)]; rfl
end Go.Proofs.YtgjkjoocnkdckaaGreatDoor.PureC
