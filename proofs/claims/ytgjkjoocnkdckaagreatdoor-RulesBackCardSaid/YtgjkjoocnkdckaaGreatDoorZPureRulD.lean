import Derived.Test.YtgjkjoocnkdckaaGreatDoorZPureRulA
namespace Go.Proofs.YtgjkjoocnkdckaaGreatDoor.PureD
open Go.RowKit Go.Proofs.YtgjkjoocnkdckaaGreatDoor.PChk Go.Proofs.YtgjkjoocnkdckaaGreatDoor.G Go.Proofs.YtgjkjoocnkdckaaGreatDoor.PureC Go.Proofs.YtgjkjoocnkdckaaGreatDoorW.PrintWords Go.Proofs.YtgjkjoocnkdckaaGreatDoorW.PrintLast
set_option linter.unusedSimpArgs false
theorem dots_some : ∀ n : Fin 256, (cell_Dots.f 100 (n.val : Int)).isSome = true := by decide +kernel
theorem dots_at (k : Nat) (hk : 100 ≤ k) (c : Int) (d : ByteArray) (h : cell_Dots.f 100 c = some d) : cell_Dots.f k c = some d :=
  at_rounds (g := fun k => cell_Dots.f k c) (fun k => cell_Dots.mono _ k) hk h
def dotsOf (c : Nat) : ByteArray := (cell_Dots.f 100 (c : Int)).getD ⟨#[]⟩
theorem dotsOf_at (k c : Nat) (hk : 100 ≤ k) (hc : c < 256) : cell_Dots.f k (c : Int) = some (dotsOf c) := by
  have h := dots_some ⟨c, hc⟩
  obtain ⟨d, hd⟩ := Option.isSome_iff_exists.1 h
  have e : dotsOf c = d := by simp only at hd; simp [dotsOf, hd]
  rw [e]
  exact dots_at k hk _ d hd
def dl (c : UInt8) : List UInt8 := (dotsOf c.toNat).data.toList
def jd (cs : List UInt8) : List UInt8 := Lib.join (cs.map dl) [45]
def okc (c : UInt8) : Bool := decide (0 < c.toNat) && decide (c.toNat < 64)
def printOf (cs : List UInt8) : ByteArray × Int := if cs.all okc = true ∧ 1 ≤ cs.length ∧ cs.length ≤ 4 then (⟨(jd cs).toArray⟩, 0) else (⟨#[]⟩, 1)
theorem join_two (x y : List UInt8) (l : List (List UInt8)) (sep : List UInt8) : Lib.join (x :: y :: l) sep = x ++ (sep ++ Lib.join (y :: l) sep) := by simp [Lib.join, List.intercalate]
theorem jd_one (c : UInt8) : jd [c] = dl c := by simp [jd, Lib.join, List.intercalate]
theorem jd_cons (x y : UInt8) (l : List UInt8) : jd (x :: y :: l) = dl x ++ 45 :: jd (y :: l) := by
  unfold jd
  rw [List.map_cons, List.map_cons, join_two]
  rfl
theorem dl_sizes : ∀ c : Fin 256, (dotsOf c.val).size ≤ 8 := by decide +kernel
theorem dl_len (c : UInt8) : (dl c).length ≤ 8 := by
  have h := dl_sizes ⟨c.toNat, c.toNat_lt⟩
  have : (dl c).length = (dotsOf c.toNat).size := by simp [dl]
  simp only at h
  omega
theorem jd_len : ∀ cs : List UInt8, (jd cs).length ≤ 9 * cs.length
  | [] => by simp [jd, Lib.join, List.intercalate]
  | [x] => by rw [jd_one]; have := dl_len x; simp; omega
  | x :: y :: l => by
    have ih := jd_len (y :: l)
    have := dl_len x
    rw [jd_cons]
    simp at ih ⊢
    omega
theorem print_go (s : ByteArray) (hs : s.size ≤ 2000) (fuel : Nat) : ∀ (k i : Nat), i + fuel = s.size → (s.data.toList.take i).all okc = true → fuel + 110 ≤ k →
    cell_Print.l0 k s ((s.data.toList.take i).map fun c => dotsOf c.toNat) (s.size : Int) (i : Int) = some (printOf s.data.toList) := by
  induction fuel with
  | zero =>
    intro k i hi ha hk
    obtain ⟨k, rfl⟩ : ∃ m, k = m + 1 := ⟨k - 1, by omega⟩
    have hfull : s.data.toList.take i = s.data.toList := List.take_of_length_le (by simp; omega)
    have hlen : s.data.toList.length = s.size := by simp
    rw [hfull] at ha ⊢
    rw [cell_Print.l0, if_neg (by omega)]
    unfold printOf
    have hml : (s.data.toList.map fun c => dotsOf c.toNat).length = s.size := by rw [List.length_map, hlen]
    by_cases h0 : s.size = 0
    · rw [if_pos (by omega), if_neg (by omega)]
    · rw [if_neg (by omega)]
      by_cases h4 : 4 < s.size
      · rw [if_pos (by omega), if_neg (by omega)]
      · have hj := jd_len s.data.toList
        have e : ((s.data.toList.map fun c => dotsOf c.toNat).map (·.data.toList)) = s.data.toList.map dl := by simp [dl, List.map_map, Function.comp_def]
        have hjl : (Lib.join (s.data.toList.map dl) [45]).length ≤ 140737488355328 := by
          show (jd s.data.toList).length ≤ _
          omega
        rw [if_neg (by omega), if_pos ⟨ha, by omega, by omega⟩, strings_Join.f, e, if_pos ⟨by rw [hml]; omega, hjl⟩]
        rfl
  | succ fuel ih =>
    intro k i hi ha hk
    obtain ⟨k, rfl⟩ : ∃ m, k = m + 1 := ⟨k - 1, by omega⟩
    have hlt : i < s.size := by omega
    have hb := s[i].toNat_lt
    have hget : s.data.toList[i]? = some s[i] := by rw [List.getElem?_eq_getElem (by simpa using hlt)]; rfl
    have hno : okc s[i] = false → printOf s.data.toList = (⟨#[]⟩, 1) := fun h => by
      unfold printOf
      rw [if_neg (fun h2 => by
        have h3 := List.all_eq_true.1 h2.1 s[i] (List.mem_of_getElem? hget)
        rw [h] at h3
        cases h3)]
    rw [cell_Print.l0, if_pos (by omega), if_pos (by omega), if_pos (by omega), bt_of s i hlt, cell_may.f, Option.bind_some]
    by_cases h64 : s[i].toNat < 64
    · rw [if_pos (by simp; omega)]
      by_cases h0 : s[i].toNat = 0
      · rw [if_pos (by omega), hno (by simp [okc, h0])]
      · rw [if_neg (by omega), dotsOf_at k _ (by omega) hb, Option.bind_some, if_pos (by simp; omega), wrap_of (x := (i : Int) + 1) (by omega) (by omega)]
        have e : s.data.toList.take (i + 1) = s.data.toList.take i ++ [s[i]] := by rw [List.take_add_one, hget]; rfl
        have hx := ih k (i + 1) (by omega) (by rw [e, List.all_append, ha]; simp [okc]; omega) (by omega)
        rw [e, List.map_append] at hx
        exact hx
    · rw [if_neg (by simp; omega), hno (by simp [okc]; omega)]
theorem print_at (s : ByteArray) (hs : s.size ≤ 2000) (k : Nat) (hk : s.size + 200 ≤ k) : cell_Print.f k s = some (printOf s.data.toList) := by
  have h := print_go s hs s.size k 0 (by omega) rfl (by omega)
  exact h
def numsOf (l : List UInt8) : List Int := l.map fun b => (b.toNat : Int)
theorem strs_nums (l : List UInt8) : strOfNums (numsOf l) = ⟨l.toArray⟩ := by
  apply text_eq
  rw [strOfNums_data, mk_data, numsOf, List.map_map]
  refine List.map_id'' (fun b => ?_) l
  simp
theorem no45 : ∀ c : Fin 256, ∀ x ∈ (dotsOf c.val).data.toList, x ≠ 45 := by decide +kernel
theorem ofGo_dots : ∀ c : Fin 64, 0 < c.val → ofGo (dotsOf c.val).data.toList 0 48 = ((c.val : Int), true) := by decide +kernel
theorem split_jd : ∀ cs : List UInt8, cs ≠ [] → splitOn 45 (jd cs) = cs.map dl
  | [], h => absurd rfl h
  | [x], _ => by
    rw [jd_one, splitOn_no 45 (dl x) (no45 ⟨x.toNat, x.toNat_lt⟩)]
    rfl
  | x :: y :: l, _ => by
    rw [jd_cons, splitOn_cut 45 (dl x) _ (no45 ⟨x.toNat, x.toNat_lt⟩), split_jd (y :: l) (by simp)]
    rfl
theorem parseGo_dots : ∀ (cs : List UInt8) (acc : List Int) (a : Int), cs.all okc = true → acc.length + cs.length ≤ 4 → parseGo (cs.map fun c => dotsOf c.toNat) acc a = (strOfNums (acc ++ numsOf cs), 0, 0)
  | [], acc, a, _, _ => by simp [parseGo, numsOf]
  | c :: cs, acc, a, h, hl => by
    rw [List.all_cons, Bool.and_eq_true] at h
    have hc : 0 < c.toNat ∧ c.toNat < 64 := by simpa [okc] using h.1
    have ho := ofGo_dots ⟨c.toNat, hc.2⟩ hc.1
    simp only at ho
    simp only [List.length_cons] at hl
    rw [List.map_cons, parseGo, ho, if_neg (by simp; omega), parseGo_dots cs _ _ h.2 (by simp; omega)]
    simp [numsOf]
theorem dots_mk (cs : List UInt8) : (cs.map dl).map (fun l => (⟨l.toArray⟩ : ByteArray)) = cs.map fun c => dotsOf c.toNat := by
  rw [List.map_map]
  rfl
def dg (c : Nat) : Nat → Nat → List UInt8
  | _, 0 => []
  | j, n + 1 => if c.testBit j then UInt8.ofNat (j + 49) :: dg c (j + 1) n else dg c (j + 1) n
theorem dg_end : ∀ (c : Fin 64) (j : Fin 7), c.val < 2 ^ j.val → dg c.val j.val (6 - j.val) = [] ∧ c.val % 2 ^ j.val = c.val := by decide +kernel
theorem dg_step : ∀ (c : Fin 64) (d : Fin 6) (j : Fin 7), j.val ≤ d.val → 2 ^ d.val ≤ c.val % 2 ^ (d.val + 1) → c.val % 2 ^ (d.val + 1) - 2 ^ d.val < 2 ^ j.val →
    dg c.val j.val (6 - j.val) = UInt8.ofNat (d.val + 49) :: dg c.val (d.val + 1) (6 - (d.val + 1)) ∧ c.val % 2 ^ j.val = c.val % 2 ^ (d.val + 1) - 2 ^ d.val := by decide +kernel
theorem dg_dots : ∀ c : Fin 64, 0 < c.val → (dotsOf c.val).data.toList = dg c.val 0 6 := by decide +kernel
theorem p6 (l : Nat) (hl : l ≤ 6) : 2 ^ l ≤ 64 := by
  have : l = 0 ∨ l = 1 ∨ l = 2 ∨ l = 3 ∨ l = 4 ∨ l = 5 ∨ l = 6 := by omega
  rcases this with rfl | rfl | rfl | rfl | rfl | rfl | rfl <;> decide
theorem ofGo_inv : ∀ (l : List UInt8) (c0 j : Nat), j ≤ 6 → c0 < 2 ^ j → (ofGo l (c0 : Int) ((j : Int) + 48)).2 = true →
    ∃ c : Nat, 0 < c ∧ c < 64 ∧ (ofGo l (c0 : Int) ((j : Int) + 48)).1 = c ∧ l = dg c j (6 - j) ∧ c % 2 ^ j = c0
  | [], c0, j, hj, hc, h => by
    have h6 := p6 j hj
    rw [ofGo] at h ⊢
    have h0 : c0 ≠ 0 := by
      intro e
      subst e
      simp at h
    obtain ⟨e1, e2⟩ := dg_end ⟨c0, by omega⟩ ⟨j, by omega⟩ hc
    exact ⟨c0, by omega, by omega, rfl, e1.symm, e2⟩
  | b :: l, c0, j, hj, hc, h => by
    have h6 := p6 j hj
    rw [ofGo] at h ⊢
    by_cases hb : (b.toNat : Int) ≤ (j : Int) + 48 ∨ (54 : Int) < b.toNat
    · rw [if_pos hb] at h
      cases h
    · rw [if_neg hb] at h ⊢
      obtain ⟨d, hd⟩ : ∃ d : Nat, b.toNat = d + 49 := ⟨b.toNat - 49, by omega⟩
      have hbd : b = UInt8.ofNat (d + 49) := by
        apply UInt8.toNat_inj.1
        rw [hd]
        simp
        omega
      have hpd : 2 ^ j ≤ 2 ^ d := Nat.pow_le_pow_right (by decide) (by omega)
      have hd6 := p6 (d + 1) (by omega)
      have hps : 2 ^ (d + 1) = 2 ^ d * 2 := Nat.pow_succ ..
      have ho := or_small ⟨c0, by omega⟩ ⟨d, by omega⟩ (by show c0 < 2 ^ d; omega)
      simp only at ho
      rw [hd, Nat.add_sub_cancel, ho] at h ⊢
      rw [show ((c0 : Int) + 2 ^ d) = ((c0 + 2 ^ d : Nat) : Int) from by simp, show ((d + 49 : Nat) : Int) = ((d + 1 : Nat) : Int) + 48 from by omega] at h ⊢
      obtain ⟨c, c1, c2, c3, c4, c5⟩ := ofGo_inv l (c0 + 2 ^ d) (d + 1) (by omega) (by omega) h
      obtain ⟨e1, e2⟩ := dg_step ⟨c, c2⟩ ⟨d, by omega⟩ ⟨j, by omega⟩ (by show j ≤ d; omega) (by show 2 ^ d ≤ c % 2 ^ (d + 1); omega) (by show c % 2 ^ (d + 1) - 2 ^ d < 2 ^ j; omega)
      simp only at e1 e2
      refine ⟨c, c1, c2, c3, ?_, by omega⟩
      rw [e1, hbd, c4]
theorem of_inv (p : ByteArray) (h : (ofGo p.data.toList 0 48).2 = true) : ∃ c : UInt8, okc c = true ∧ p = dotsOf c.toNat ∧ (ofGo p.data.toList 0 48).1 = c.toNat := by
  obtain ⟨c, c1, c2, c3, c4, _⟩ := ofGo_inv p.data.toList 0 0 (by decide) (by decide) h
  have hc : (UInt8.ofNat c).toNat = c := by simp; omega
  refine ⟨UInt8.ofNat c, by simp [okc, hc]; omega, ?_, by rw [hc]; exact c3⟩
  rw [hc]
  apply text_eq
  rw [c4]
  exact (dg_dots ⟨c, c2⟩ c1).symm
theorem parse_inv : ∀ (ps : List ByteArray) (acc : List Int) (a : Int), acc.length ≤ 4 → (parseGo ps acc a).2.2 = 0 →
    ∃ cs : List UInt8, cs.all okc = true ∧ ps = (cs.map fun c => dotsOf c.toNat) ∧ acc.length + cs.length ≤ 4 ∧ (parseGo ps acc a).1 = strOfNums (acc ++ numsOf cs)
  | [], acc, a, hl, _ => ⟨[], rfl, rfl, by simpa using hl, by simp [parseGo, numsOf]⟩
  | p :: ps, acc, a, hl, h => by
    rw [parseGo] at h ⊢
    by_cases hb : (ofGo p.data.toList 0 48).2 = false ∨ acc.length = 4
    · rw [if_pos hb] at h
      cases h
    · rw [if_neg hb] at h ⊢
      have hb1 : (ofGo p.data.toList 0 48).2 = true := by
        cases e : (ofGo p.data.toList 0 48).2 with
        | true => rfl
        | false => exact absurd (.inl e) hb
      have hb2 : acc.length ≠ 4 := fun e => hb (.inr e)
      obtain ⟨c, k1, k2, k3⟩ := of_inv p hb1
      obtain ⟨cs, m1, m2, m3, m4⟩ := parse_inv ps _ _ (by simp; omega) h
      refine ⟨c :: cs, by rw [List.all_cons, k1, m1]; rfl, by rw [List.map_cons, ← m2, ← k2], by simp at m3 ⊢; omega, ?_⟩
      rw [m4, k3]
      simp [numsOf]
end Go.Proofs.YtgjkjoocnkdckaaGreatDoor.PureD
