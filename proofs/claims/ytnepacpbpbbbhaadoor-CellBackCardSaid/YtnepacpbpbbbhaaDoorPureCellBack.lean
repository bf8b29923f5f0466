/- The pure statement of CellBack: a text printed of cells reads back to them, and cells read off a text print to it; so do signs. -/
import Derived.Test.YtnepacpbpbbbhaaDoorPureCellTexts
import Derived.Test.YtnepacpbpbbbhaaDoorPCell6
namespace Go.Proofs.YtnepacpbpbbbhaaDoor.Pure
open Go.RowKit Go.Proofs.YtnepacpbpbbbhaaDoor.PCell Go.Proofs.YtnepacpbpbbbhaaDoor.G Go.Proofs.YtnepacpbpbbbhaaDoorW.PrintWords Go.Proofs.YtnepacpbpbbbhaaDoorW.PrintLast

def numsOf (l : List UInt8) : List Int := l.map fun b => (b.toNat : Int)
theorem strs_nums (l : List UInt8) : strOfNums (numsOf l) = ⟨l.toArray⟩ := by
  apply text_eq
  rw [strOfNums_data, mk_data, numsOf, List.map_map]
  refine List.map_id'' (fun b => ?_) l
  simp
theorem strs_self (s : ByteArray) : strOfNums (numsOf s.data.toList) = s := by rw [strs_nums]

/-! ### signs there and back -/
theorem each_inv (f g : Int → Int × Bool) (h : ∀ c : Fin 256, (f (c.val : Int)).2 = true → 0 ≤ (f (c.val : Int)).1 ∧ (f (c.val : Int)).1 < 256 ∧ g (f (c.val : Int)).1 = ((c.val : Int), true)) :
    ∀ (l : List UInt8) (acc : List Int) (i : Int), 0 ≤ i → (eachGo f l acc i).2 < 0 → ∃ ys : List UInt8, ys.length = l.length ∧ (eachGo f l acc i).1 = acc ++ numsOf ys ∧ ∀ acc' i', eachGo g ys acc' i' = (acc' ++ numsOf l, -1)
  | [], acc, i, _, _ => ⟨[], rfl, by simp [eachGo, numsOf], fun acc' i' => by simp [eachGo, numsOf]⟩
  | b :: l, acc, i, hi, hlt => by
    rw [eachGo] at hlt
    by_cases hb : (f b.toNat).2 = true
    · rw [if_pos hb] at hlt
      have h3 := h ⟨b.toNat, b.toNat_lt⟩ hb
      simp only at h3
      obtain ⟨h0, h1, h2⟩ := h3
      obtain ⟨ys, hl, he, hg⟩ := each_inv f g h l _ _ (by omega) hlt
      obtain ⟨n, hn⟩ : ∃ n : Nat, (f b.toNat).1 = n := ⟨(f b.toNat).1.toNat, by omega⟩
      have hy : ((UInt8.ofNat n).toNat : Int) = n := by simp; omega
      refine ⟨UInt8.ofNat n :: ys, by simp [hl], ?_, ?_⟩
      · rw [eachGo, if_pos hb, he, hn]
        simp only [numsOf, List.map_cons, hy, List.append_assoc, List.singleton_append]
      · intro acc' i'
        rw [hn] at h2
        rw [eachGo, hy, if_pos (by rw [h2]), hg, h2]
        simp only [numsOf, List.map_cons, List.append_assoc, List.singleton_append]
    · rw [if_neg hb] at hlt
      simp only at hlt
      omega
theorem signF_fromF : ∀ c : Fin 256, (signF (c.val : Int)).2 = true → 0 ≤ (signF (c.val : Int)).1 ∧ (signF (c.val : Int)).1 < 256 ∧ fromF (signF (c.val : Int)).1 = ((c.val : Int), true) := by decide +kernel
theorem fromF_signF : ∀ c : Fin 256, (fromF (c.val : Int)).2 = true → 0 ≤ (fromF (c.val : Int)).1 ∧ (fromF (c.val : Int)).1 < 256 ∧ signF (fromF (c.val : Int)).1 = ((c.val : Int), true) := by decide +kernel
theorem size_of (l : List UInt8) : (⟨l.toArray⟩ : ByteArray).size = l.length := rfl

theorem back3 (k : Nat) (hk : 200 ≤ k) (y : ByteArray) (hy : y.size ≤ 2000) : styluslaw02_CellBack.j3 k y = some true := by
  obtain ⟨k, rfl⟩ : ∃ m, k = m + 1 := ⟨k - 1, by omega⟩
  have hl : y.data.toList.length = y.size := by simp
  rw [styluslaw02_CellBack.j3, cell_Cells.f, if_pos (by omega), Option.bind_some]
  by_cases h : 0 ≤ (eachGo fromF y.data.toList [] 0).2
  · rw [if_pos h, if_neg (by show ¬ (2 : Int) = 0; decide), awake_at k (by omega)]
    rfl
  · rw [if_neg h, if_pos rfl]
    obtain ⟨ys, h1, h2, h3⟩ := each_inv fromF signF fromF_signF y.data.toList [] 0 (by omega) (by omega)
    have hS : cell_Signs.f ⟨ys.toArray⟩ = some (y, 0) := by
      rw [cell_Signs.f, if_pos (by rw [size_of]; omega), mk_data, h3, if_neg (by show ¬ (0 : Int) ≤ -1; decide), List.nil_append, strs_self]
    rw [h2, List.nil_append, strs_nums, hS, Option.bind_some, if_pos rfl, if_pos rfl, awake_at k (by omega)]
    rfl
theorem back2 (k : Nat) (hk : 201 ≤ k) (x y : ByteArray) (hx : x.size ≤ 2000) (hy : y.size ≤ 2000) : styluslaw02_CellBack.j2 k x y = some true := by
  obtain ⟨k, rfl⟩ : ∃ m, k = m + 1 := ⟨k - 1, by omega⟩
  have hl : x.data.toList.length = x.size := by simp
  have hj := back3 k (by omega) y hy
  rw [styluslaw02_CellBack.j2, cell_Signs.f, if_pos (by omega), Option.bind_some]
  by_cases h : 0 ≤ (eachGo signF x.data.toList [] 0).2
  · rw [if_pos h, if_neg (by show ¬ (1 : Int) = 0; decide)]
    exact hj
  · rw [if_neg h, if_pos rfl]
    obtain ⟨ys, h1, h2, h3⟩ := each_inv signF fromF signF_fromF x.data.toList [] 0 (by omega) (by omega)
    have hS : cell_Cells.f ⟨ys.toArray⟩ = some (x, 0, 0) := by
      rw [cell_Cells.f, if_pos (by rw [size_of]; omega), mk_data, h3, if_neg (by show ¬ (0 : Int) ≤ -1; decide), List.nil_append, strs_self]
    rw [h2, List.nil_append, strs_nums, hS, Option.bind_some, if_pos rfl, if_pos rfl, if_pos rfl]
    exact hj

/-! ### texts there and back -/
theorem no45 : ∀ c : Fin 256, ∀ x ∈ (dotsOf c.val).data.toList, x ≠ 45 := by decide +kernel
theorem ofGo_dots : ∀ c : Fin 64, 0 < c.val → ofGo (dotsOf c.val).data.toList 0 48 = ((c.val : Int), true) := by decide +kernel
theorem split_jd : ∀ cs : List UInt8, cs ≠ [] → splitOn 45 (jd cs) = cs.map dl
  | [], h => absurd rfl h
  | [x], _ => by
    rw [jd_one, splitOn_no 45 (dl x) (no45 ⟨x.toNat, x.toNat_lt⟩)]
    rfl
  | x :: y :: l, _ => by
    rw [jd_cons, splitOn_cut 45 (dl x) _ (no45 ⟨x.toNat, x.toNat_lt⟩), split_jd (y :: l) (by simp)]
    rfl
theorem parseGo_dots : ∀ (cs : List UInt8) (acc : List Int) (a : Int), cs.all okc = true → acc.length + cs.length ≤ 4 → parseGo (cs.map fun c => dotsOf c.toNat) acc a = (strOfNums (acc ++ numsOf cs), 0, 0)
  | [], acc, a, _, _ => by simp [parseGo, numsOf]
  | c :: cs, acc, a, h, hl => by
    rw [List.all_cons, Bool.and_eq_true] at h
    have hc : 0 < c.toNat ∧ c.toNat < 64 := by simpa [okc] using h.1
    have ho := ofGo_dots ⟨c.toNat, hc.2⟩ hc.1
    simp only at ho
    simp only [List.length_cons] at hl
    rw [List.map_cons, parseGo, ho, if_neg (by simp; omega), parseGo_dots cs _ _ h.2 (by simp; omega)]
    simp [numsOf]
theorem dots_mk (cs : List UInt8) : (cs.map dl).map (fun l => (⟨l.toArray⟩ : ByteArray)) = cs.map fun c => dotsOf c.toNat := by
  rw [List.map_map]
  rfl

def dg (c : Nat) : Nat → Nat → List UInt8
  | _, 0 => []
  | j, n + 1 => if c.testBit j then UInt8.ofNat (j + 49) :: dg c (j + 1) n else dg c (j + 1) n
theorem dg_end : ∀ (c : Fin 64) (j : Fin 7), c.val < 2 ^ j.val → dg c.val j.val (6 - j.val) = [] ∧ c.val % 2 ^ j.val = c.val := by decide +kernel
theorem dg_step : ∀ (c : Fin 64) (d : Fin 6) (j : Fin 7), j.val ≤ d.val → 2 ^ d.val ≤ c.val % 2 ^ (d.val + 1) → c.val % 2 ^ (d.val + 1) - 2 ^ d.val < 2 ^ j.val →
    dg c.val j.val (6 - j.val) = UInt8.ofNat (d.val + 49) :: dg c.val (d.val + 1) (6 - (d.val + 1)) ∧ c.val % 2 ^ j.val = c.val % 2 ^ (d.val + 1) - 2 ^ d.val := by decide +kernel
theorem dg_dots : ∀ c : Fin 64, 0 < c.val → (dotsOf c.val).data.toList = dg c.val 0 6 := by decide +kernel
theorem p6 (l : Nat) (hl : l ≤ 6) : 2 ^ l ≤ 64 := by
  have : l = 0 ∨ l = 1 ∨ l = 2 ∨ l = 3 ∨ l = 4 ∨ l = 5 ∨ l = 6 := by omega
  rcases this with rfl | rfl | rfl | rfl | rfl | rfl | rfl <;> decide
theorem ofGo_inv : ∀ (l : List UInt8) (c0 j : Nat), j ≤ 6 → c0 < 2 ^ j → (ofGo l (c0 : Int) ((j : Int) + 48)).2 = true →
    ∃ c : Nat, 0 < c ∧ c < 64 ∧ (ofGo l (c0 : Int) ((j : Int) + 48)).1 = c ∧ l = dg c j (6 - j) ∧ c % 2 ^ j = c0
  | [], c0, j, hj, hc, h => by
    have h6 := p6 j hj
    rw [ofGo] at h ⊢
    have h0 : c0 ≠ 0 := by
      intro e
      subst e
      simp at h
    obtain ⟨e1, e2⟩ := dg_end ⟨c0, by omega⟩ ⟨j, by omega⟩ hc
    exact ⟨c0, by omega, by omega, rfl, e1.symm, e2⟩
  | b :: l, c0, j, hj, hc, h => by
    have h6 := p6 j hj
    rw [ofGo] at h ⊢
    by_cases hb : (b.toNat : Int) ≤ (j : Int) + 48 ∨ (54 : Int) < b.toNat
    · rw [if_pos hb] at h
      cases h
    · rw [if_neg hb] at h ⊢
      obtain ⟨d, hd⟩ : ∃ d : Nat, b.toNat = d + 49 := ⟨b.toNat - 49, by omega⟩
      have hbd : b = UInt8.ofNat (d + 49) := by
        apply UInt8.toNat_inj.1
        rw [hd]
        simp
        omega
      have hpd : 2 ^ j ≤ 2 ^ d := Nat.pow_le_pow_right (by decide) (by omega)
      have hd6 := p6 (d + 1) (by omega)
      have hps : 2 ^ (d + 1) = 2 ^ d * 2 := Nat.pow_succ ..
      have ho := or_small ⟨c0, by omega⟩ ⟨d, by omega⟩ (by show c0 < 2 ^ d; omega)
      simp only at ho
      rw [hd, Nat.add_sub_cancel, ho] at h ⊢
      rw [show ((c0 : Int) + 2 ^ d) = ((c0 + 2 ^ d : Nat) : Int) from by simp, show ((d + 49 : Nat) : Int) = ((d + 1 : Nat) : Int) + 48 from by omega] at h ⊢
      obtain ⟨c, c1, c2, c3, c4, c5⟩ := ofGo_inv l (c0 + 2 ^ d) (d + 1) (by omega) (by omega) h
      obtain ⟨e1, e2⟩ := dg_step ⟨c, c2⟩ ⟨d, by omega⟩ ⟨j, by omega⟩ (by show j ≤ d; omega) (by show 2 ^ d ≤ c % 2 ^ (d + 1); omega) (by show c % 2 ^ (d + 1) - 2 ^ d < 2 ^ j; omega)
      simp only at e1 e2
      refine ⟨c, c1, c2, c3, ?_, by omega⟩
      rw [e1, hbd, c4]
theorem of_inv (p : ByteArray) (h : (ofGo p.data.toList 0 48).2 = true) : ∃ c : UInt8, okc c = true ∧ p = dotsOf c.toNat ∧ (ofGo p.data.toList 0 48).1 = c.toNat := by
  obtain ⟨c, c1, c2, c3, c4, _⟩ := ofGo_inv p.data.toList 0 0 (by decide) (by decide) h
  have hc : (UInt8.ofNat c).toNat = c := by simp; omega
  refine ⟨UInt8.ofNat c, by simp [okc, hc]; omega, ?_, by rw [hc]; exact c3⟩
  rw [hc]
  apply text_eq
  rw [c4]
  exact (dg_dots ⟨c, c2⟩ c1).symm
theorem parse_inv : ∀ (ps : List ByteArray) (acc : List Int) (a : Int), acc.length ≤ 4 → (parseGo ps acc a).2.2 = 0 →
    ∃ cs : List UInt8, cs.all okc = true ∧ ps = (cs.map fun c => dotsOf c.toNat) ∧ acc.length + cs.length ≤ 4 ∧ (parseGo ps acc a).1 = strOfNums (acc ++ numsOf cs)
  | [], acc, a, hl, _ => ⟨[], rfl, rfl, by simpa using hl, by simp [parseGo, numsOf]⟩
  | p :: ps, acc, a, hl, h => by
    rw [parseGo] at h ⊢
    by_cases hb : (ofGo p.data.toList 0 48).2 = false ∨ acc.length = 4
    · rw [if_pos hb] at h
      cases h
    · rw [if_neg hb] at h ⊢
      have hb1 : (ofGo p.data.toList 0 48).2 = true := by
        cases e : (ofGo p.data.toList 0 48).2 with
        | true => rfl
        | false => exact absurd (.inl e) hb
      have hb2 : acc.length ≠ 4 := fun e => hb (.inr e)
      obtain ⟨c, k1, k2, k3⟩ := of_inv p hb1
      obtain ⟨cs, m1, m2, m3, m4⟩ := parse_inv ps _ _ (by simp; omega) h
      refine ⟨c :: cs, by rw [List.all_cons, k1, m1]; rfl, by rw [List.map_cons, ← m2, ← k2], by simp at m3 ⊢; omega, ?_⟩
      rw [m4, k3]
      simp [numsOf]
theorem join_cons (c : UInt8) (x : List UInt8) (xs : List (List UInt8)) (sep : List UInt8) : Lib.join ((c :: x) :: xs) sep = c :: Lib.join (x :: xs) sep := by
  cases xs with
  | nil => simp [Lib.join, List.intercalate]
  | cons y ys => rw [join_two, join_two]; rfl
theorem splitOn_ne (b : UInt8) : ∀ l : List UInt8, splitOn b l ≠ []
  | [] => by simp [splitOn]
  | c :: l => by unfold splitOn; split <;> simp
theorem join_split (b : UInt8) : ∀ l : List UInt8, Lib.join (splitOn b l) [b] = l
  | [] => by simp [splitOn, Lib.join, List.intercalate]
  | c :: l => by
    have ih := join_split b l
    unfold splitOn
    cases hs : splitOn b l with
    | nil => exact absurd hs (splitOn_ne b l)
    | cons x xs =>
      rw [hs] at ih
      by_cases hc : (c == b) = true
      · rw [if_pos hc, join_two, ih, eq_of_beq hc]
        rfl
      · rw [if_neg hc]
        simp only [List.headD_cons, List.tail_cons]
        rw [join_cons, ih]

theorem back1 (k : Nat) (x y : ByteArray) (hx : x.size ≤ 2000) (hy : y.size ≤ 2000) (hk : x.size + y.size + 300 ≤ k) : styluslaw02_CellBack.j1 k x y = some true := by
  obtain ⟨k, rfl⟩ : ∃ m, k = m + 1 := ⟨k - 1, by omega⟩
  have hj := back2 k (by omega) x y hx hy
  rw [styluslaw02_CellBack.j1, parse_at y hy, Option.bind_some]
  by_cases h : (parseGo (parts 45 y) [] 0).2.2 = 0
  · rw [if_pos h]
    obtain ⟨cs, m1, m2, m3, m4⟩ := parse_inv (parts 45 y) [] 0 (by simp) h
    simp only [List.nil_append, List.length_nil] at m3 m4
    rw [m4, strs_nums, print_at _ (by rw [size_of]; omega) k (by rw [size_of]; omega), Option.bind_some, mk_data]
    have hsp : splitOn 45 y.data.toList = cs.map dl := by
      have := congrArg (List.map fun p : ByteArray => p.data.toList) m2
      rw [parts, List.map_map, List.map_map] at this
      rw [show (fun p : ByteArray => p.data.toList) ∘ (fun l : List UInt8 => (⟨l.toArray⟩ : ByteArray)) = id from rfl, List.map_id] at this
      exact this
    have hne : cs ≠ [] := by
      rintro rfl
      exact splitOn_ne 45 _ hsp
    have hlen : 1 ≤ cs.length := List.length_pos_iff.2 hne
    have hjd : jd cs = y.data.toList := by
      rw [jd, ← hsp, join_split]
    have hpr : printOf cs = (y, 0) := by rw [printOf, if_pos ⟨m1, hlen, by omega⟩, hjd]
    rw [hpr, if_pos rfl, if_pos rfl]
    exact hj
  · rw [if_neg h]
    exact hj
theorem CellBack : styluslaw02_CellBack.Pure := by
  intro a0 a1 h0 h1
  refine ⟨a0.size + a1.size + 602, ?_⟩
  unfold styluslaw02_CellBack.f
  by_cases b0 : a0.size ≤ 2000
  · by_cases b1 : a1.size ≤ 2000
    · have hj := back1 (a0.size + a1.size + 601) a0 a1 b0 b1 (by omega)
      rw [if_neg (by omega), show decide ((a1.size : Int) > 2000) = false from by simp; omega, styluslaw02_CellBack.j0, if_neg (by decide), print_at a0 b0 _ (by omega), Option.bind_some]
      unfold printOf
      by_cases hp : a0.data.toList.all okc = true ∧ 1 ≤ a0.data.toList.length ∧ a0.data.toList.length ≤ 4
      · rw [if_pos hp, if_pos rfl]
        have hjl := jd_len a0.data.toList
        rw [parse_at _ (by rw [size_of]; omega), Option.bind_some, parts, mk_data, split_jd _ (fun e => by rw [e] at hp; exact absurd hp.2.1 (by decide)), dots_mk, parseGo_dots _ _ _ hp.1 (by simp only [List.length_nil]; omega), List.nil_append, strs_self]
        simp only [if_true]
        exact hj
      · rw [if_neg hp, if_neg (by decide)]
        exact hj
    · rw [if_neg (by omega), show decide ((a1.size : Int) > 2000) = true from by simp; omega, styluslaw02_CellBack.j0, if_pos rfl, awake_at _ (by omega)]
      rfl
  · rw [if_pos (by omega), styluslaw02_CellBack.j0, if_pos rfl, awake_at _ (by omega)]
    rfl
end Go.Proofs.YtnepacpbpbbbhaaDoor.Pure
