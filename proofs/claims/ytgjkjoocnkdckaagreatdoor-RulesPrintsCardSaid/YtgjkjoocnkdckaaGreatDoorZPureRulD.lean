import Derived.Test.YtgjkjoocnkdckaaGreatDoorZPureRulA
namespace Go.Proofs.YtgjkjoocnkdckaaGreatDoor.PureD
open Go.RowKit Go.Proofs.YtgjkjoocnkdckaaGreatDoor.PChk Go.Proofs.YtgjkjoocnkdckaaGreatDoor.G Go.Proofs.YtgjkjoocnkdckaaGreatDoor.PureC Go.Proofs.YtgjkjoocnkdckaaGreatDoorW.PrintWords Go.Proofs.YtgjkjoocnkdckaaGreatDoorW.PrintLast
set_option linter.unusedSimpArgs false
theorem dots_some : ∀ n : Fin 256, (cell_Dots.f 100 (n.val : Int)).isSome = true := by decide +kernel
theorem dots_at (k : Nat) (hk : 100 ≤ k) (c : Int) (d : ByteArray) (h : cell_Dots.f 100 c = some d) : cell_Dots.f k c = some d :=
  at_rounds (g := fun k => cell_Dots.f k c) (fun k => cell_Dots.mono _ k) hk h
def dotsOf (c : Nat) : ByteArray := (cell_Dots.f 100 (c : Int)).getD ⟨#[]⟩
theorem dotsOf_at (k c : Nat) (hk : 100 ≤ k) (hc : c < 256) : cell_Dots.f k (c : Int) = some (dotsOf c) := by
  have h := dots_some ⟨c, hc⟩
  obtain ⟨d, hd⟩ := Option.isSome_iff_exists.1 h
  have e : dotsOf c = d := by simp only at hd; simp [dotsOf, hd]
  rw [e]
  exact dots_at k hk _ d hd
def dl (c : UInt8) : List UInt8 := (dotsOf c.toNat).data.toList
def jd (cs : List UInt8) : List UInt8 := Lib.join (cs.map dl) [45]
def okc (c : UInt8) : Bool := decide (0 < c.toNat) && decide (c.toNat < 64)
def printOf (cs : List UInt8) : ByteArray × Int := if cs.all okc = true ∧ 1 ≤ cs.length ∧ cs.length ≤ 4 then (⟨(jd cs).toArray⟩, 0) else (⟨#[]⟩, 1)
theorem join_two (x y : List UInt8) (l : List (List UInt8)) (sep : List UInt8) : Lib.join (x :: y :: l) sep = x ++ (sep ++ Lib.join (y :: l) sep) := by simp [Lib.join, List.intercalate]
theorem jd_one (c : UInt8) : jd [c] = dl c := by simp [jd, Lib.join, List.intercalate]
theorem jd_cons (x y : UInt8) (l : List UInt8) : jd (x :: y :: l) = dl x ++ 45 :: jd (y :: l) := by
  unfold jd
  rw [List.map_cons, List.map_cons, join_two]
  rfl
theorem jd_snoc (c : UInt8) : ∀ cs : List UInt8, cs ≠ [] → jd (cs ++ [c]) = jd cs ++ 45 :: dl c
  | [], h => absurd rfl h
  | [x], _ => by rw [List.singleton_append, jd_cons, jd_one, jd_one]
  | x :: y :: l, _ => by
    have ih := jd_snoc c (y :: l) (by simp)
    rw [List.cons_append, List.cons_append, jd_cons, ← List.cons_append, ih, jd_cons]
    simp
theorem dl_sizes : ∀ c : Fin 256, (dotsOf c.val).size ≤ 8 := by decide +kernel
theorem dl_len (c : UInt8) : (dl c).length ≤ 8 := by
  have h := dl_sizes ⟨c.toNat, c.toNat_lt⟩
  have : (dl c).length = (dotsOf c.toNat).size := by simp [dl]
  simp only at h
  omega
theorem jd_len : ∀ cs : List UInt8, (jd cs).length ≤ 9 * cs.length
  | [] => by simp [jd, Lib.join, List.intercalate]
  | [x] => by rw [jd_one]; have := dl_len x; simp; omega
  | x :: y :: l => by
    have ih := jd_len (y :: l)
    have := dl_len x
    rw [jd_cons]
    simp at ih ⊢
    omega
theorem print_go (s : ByteArray) (hs : s.size ≤ 2000) (fuel : Nat) : ∀ (k i : Nat), i + fuel = s.size → (s.data.toList.take i).all okc = true → fuel + 110 ≤ k →
    cell_Print.l0 k s ((s.data.toList.take i).map fun c => dotsOf c.toNat) (s.size : Int) (i : Int) = some (printOf s.data.toList) := by
  induction fuel with
  | zero =>
    intro k i hi ha hk
    obtain ⟨k, rfl⟩ : ∃ m, k = m + 1 := ⟨k - 1, by omega⟩
    have hfull : s.data.toList.take i = s.data.toList := List.take_of_length_le (by simp; omega)
    have hlen : s.data.toList.length = s.size := by simp
    rw [hfull] at ha ⊢
    rw [cell_Print.l0, if_neg (by omega)]
    unfold printOf
    have hml : (s.data.toList.map fun c => dotsOf c.toNat).length = s.size := by rw [List.length_map, hlen]
    by_cases h0 : s.size = 0
    · rw [if_pos (by omega), if_neg (by omega)]
    · rw [if_neg (by omega)]
      by_cases h4 : 4 < s.size
      · rw [if_pos (by omega), if_neg (by omega)]
      · have hj := jd_len s.data.toList
        have e : ((s.data.toList.map fun c => dotsOf c.toNat).map (·.data.toList)) = s.data.toList.map dl := by simp [dl, List.map_map, Function.comp_def]
        have hjl : (Lib.join (s.data.toList.map dl) [45]).length ≤ 140737488355328 := by
          show (jd s.data.toList).length ≤ _
          omega
        rw [if_neg (by omega), if_pos ⟨ha, by omega, by omega⟩, strings_Join.f, e, if_pos ⟨by rw [hml]; omega, hjl⟩]
        rfl
  | succ fuel ih =>
    intro k i hi ha hk
    obtain ⟨k, rfl⟩ : ∃ m, k = m + 1 := ⟨k - 1, by omega⟩
    have hlt : i < s.size := by omega
    have hb := s[i].toNat_lt
    have hget : s.data.toList[i]? = some s[i] := by rw [List.getElem?_eq_getElem (by simpa using hlt)]; rfl
    have hno : okc s[i] = false → printOf s.data.toList = (⟨#[]⟩, 1) := fun h => by
      unfold printOf
      rw [if_neg (fun h2 => by
        have h3 := List.all_eq_true.1 h2.1 s[i] (List.mem_of_getElem? hget)
        rw [h] at h3
        cases h3)]
    rw [cell_Print.l0, if_pos (by omega), if_pos (by omega), if_pos (by omega), bt_of s i hlt, cell_may.f, Option.bind_some]
    by_cases h64 : s[i].toNat < 64
    · rw [if_pos (by simp; omega)]
      by_cases h0 : s[i].toNat = 0
      · rw [if_pos (by omega), hno (by simp [okc, h0])]
      · rw [if_neg (by omega), dotsOf_at k _ (by omega) hb, Option.bind_some, if_pos (by simp; omega), wrap_of (x := (i : Int) + 1) (by omega) (by omega)]
        have e : s.data.toList.take (i + 1) = s.data.toList.take i ++ [s[i]] := by rw [List.take_add_one, hget]; rfl
        have hx := ih k (i + 1) (by omega) (by rw [e, List.all_append, ha]; simp [okc]; omega) (by omega)
        rw [e, List.map_append] at hx
        exact hx
    · rw [if_neg (by simp; omega), hno (by simp [okc]; omega)]
theorem print_at (s : ByteArray) (hs : s.size ≤ 2000) (k : Nat) (hk : s.size + 200 ≤ k) : cell_Print.f k s = some (printOf s.data.toList) := by
  have h := print_go s hs s.size k 0 (by omega) rfl (by omega)
  exact h
end Go.Proofs.YtgjkjoocnkdckaaGreatDoor.PureD
