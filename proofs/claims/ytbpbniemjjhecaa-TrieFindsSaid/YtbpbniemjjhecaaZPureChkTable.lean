import Derived.Test.YtbpbniemjjhecaaZPureChkAwake
import Derived.Test.YtbpbniemjjhecaaZPChk15
import Derived.Test.YtbpbniemjjhecaaZPChk16
import Derived.Test.YtbpbniemjjhecaaZPureChkAlone2
namespace Go.Proofs.Ytbpbniemjjhecaa.PureC
open Go.RowKit Go.Proofs.Ytbpbniemjjhecaa.PChk Go.Proofs.Ytbpbniemjjhecaa.G Go.Proofs.YtbpbniemjjhecaaW.PrintWords Go.Proofs.YtbpbniemjjhecaaW.PrintLast
set_option linter.unusedSimpArgs false
theorem rd23 (l : List S33) (i : Nat) (h : i < l.length) : rd_T33 l (i : Int) = l[i] := by
 unfold rd_T33
 rw [show ((i : Int)).toNat = i from by omega, List.getD_eq_getElem?_getD, List.getElem?_eq_getElem h]
 rfl
theorem has_go (l : List S33) (hl : l.length ≤ 100000) (what : Int) (s : ByteArray) : ∀ (n k i : Nat), i + n = l.length → n + 1 ≤ k → r9_has.l0 k l what s (i : Int) = some ((l.drop i).any (isOf what s))
 | 0, k, i, hi, hk => by
  obtain ⟨k, rfl⟩ : ∃ m, k = m + 1 := ⟨k - 1, by omega⟩
  rw [r9_has.l0, if_neg (by omega), List.drop_of_length_le (by omega)]
  rfl
 | n + 1, k, i, hi, hk => by
  obtain ⟨k, rfl⟩ : ∃ m, k = m + 1 := ⟨k - 1, by omega⟩
  have hlt : i < l.length := by omega
  have hd : l.drop i = l[i] :: l.drop (i + 1) := List.drop_eq_getElem_cons hlt
  rw [r9_has.l0, if_pos (by omega), if_pos (by omega), rd23 l i hlt, hd, List.any_cons, wrap_of (by omega) (by omega), show ((i : Int) + 1) = ((i + 1 : Nat) : Int) from by omega, has_go l hl what s n k (i + 1) (by omega) (by omega)]
  unfold isOf
  by_cases h0 : l[i].f0 = what
  ·
   rw [if_pos h0, beq_iff_eq.2 h0, Bool.true_and]
   by_cases h1 : l[i].f1.toList = s.toList
   ·
    rw [if_pos h1, beq_iff_eq.2 h1, Bool.true_or]
   ·
    rw [if_neg h1, beq_eq_false_iff_ne.2 h1, Bool.false_or]
  ·
   rw [if_neg h0, beq_eq_false_iff_ne.2 h0, Bool.false_and, Bool.false_or]
theorem has_ref (l : List S33) (hl : l.length ≤ 100000) (what : Int) (s : ByteArray) (k : Nat) (hk : l.length + 1 ≤ k) : r9_has.f k l what s = some (l.any (isOf what s)) := by
 have h := has_go l hl what s l.length k 0 (by omega) hk
 rw [List.drop_zero] at h
 exact h
theorem miss_names (l : List S33) (hl : l.length ≤ 100000) (L : List ByteArray) (hL : L.length ≤ 1000) : ∀ (n k i : Nat), i + n = L.length → n + l.length + 2 ≤ k → r9_Missing.l3 k l L (i : Int) = some (missGo l ((L.drop i).map (wRule 8)))
 | 0, k, i, hi, hk => by
  obtain ⟨k, rfl⟩ : ∃ m, k = m + 1 := ⟨k - 1, by omega⟩
  rw [r9_Missing.l3, if_neg (by omega), List.drop_of_length_le (by omega)]
  rfl
 | n + 1, k, i, hi, hk => by
  obtain ⟨k, rfl⟩ : ∃ m, k = m + 1 := ⟨k - 1, by omega⟩
  have hlt : i < L.length := by omega
  have hd : L.drop i = L[i] :: L.drop (i + 1) := List.drop_eq_getElem_cons hlt
  rw [r9_Missing.l3, if_pos (by omega), if_pos (by omega), rd_at L i hlt, has_ref l hl 8 L[i] k (by omega), Option.bind_some, hd, List.map_cons, missGo, wrap_of (by omega) (by omega), show ((i : Int) + 1) = ((i + 1 : Nat) : Int) from by omega,
   miss_names l hl L hL n k (i + 1) (by omega) (by omega)]
  show _ = some (if l.any (isOf 8 L[i]) = true then _ else L[i])
  split <;> rfl
theorem up_drop (a n i : Nat) (h : i < n) : (upB a n).drop i = UInt8.ofNat (a + i) :: (upB a n).drop (i + 1) := by
 have hlen : (upB a n).length = n := by simp [upB]
 rw [List.drop_eq_getElem_cons (by omega)]
 congr 1
 simp [upB]
theorem byte_str (a i : Nat) (h : a + i < 256) : strOfNums [(wrap64 ((a : Int) + (i : Int))) % 256] = ⟨#[UInt8.ofNat (a + i)]⟩ := by
 have e : (wrap64 ((a : Int) + (i : Int))) % 256 = ((UInt8.ofNat (a + i)).toNat : Int) := by
  rw [wrap_of (by omega) (by omega), UInt8.toNat_ofNat']
  omega
 rw [e]
 exact str_one _
theorem miss_digits (l : List S33) (hl : l.length ≤ 100000) : ∀ (n k i : Nat), i + n = 10 → n + l.length + 20 ≤ k → r9_Missing.l2 k l (i : Int) = some (missGo l (wBytes 7 ((upB 48 10).drop i) ++ wNames.map (wRule 8)))
 | 0, k, i, hi, hk => by
  obtain ⟨k, rfl⟩ : ∃ m, k = m + 1 := ⟨k - 1, by omega⟩
  have h10 : i = 10 := by omega
  subst h10
  rw [r9_Missing.l2, if_neg (by decide), names_ref, Option.bind_some]
  have h := miss_names l hl namesL (by decide) 13 k 0 (by decide) (by omega)
  rw [show ((0 : Nat) : Int) = 0 from rfl, List.drop_zero] at h
  rw [h]
  rfl
 | n + 1, k, i, hi, hk => by
  obtain ⟨k, rfl⟩ : ∃ m, k = m + 1 := ⟨k - 1, by omega⟩
  have hb := byte_str 48 i (by omega)
  rw [show ((48 : Nat) : Int) = 48 from rfl] at hb
  rw [r9_Missing.l2, if_pos (by omega), Option.bind_some, hb, has_ref l hl 7 _ k (by omega), Option.bind_some, up_drop 48 10 i (by omega), wrap_of (x := (i : Int) + 1) (by omega) (by omega), show ((i : Int) + 1) = ((i + 1 : Nat) : Int) from by omega,
   miss_digits l hl n k (i + 1) (by omega) (by omega)]
  show _ = some (missGo l (wRule 7 ⟨#[UInt8.ofNat (48 + i)]⟩ :: (wBytes 7 ((upB 48 10).drop (i + 1)) ++ wNames.map (wRule 8))))
  rw [missGo]
  show _ = some (if l.any (isOf 7 ⟨#[UInt8.ofNat (48 + i)]⟩) = true then _ else (⟨#[UInt8.ofNat (48 + i)]⟩ : ByteArray))
  split <;> rfl
theorem one_byte (s : ByteArray) (i : Nat) (h : i < s.size) : s.extract i (i + 1) = (⟨#[s[i]]⟩ : ByteArray) := by
 apply ByteArray.ext
 apply Array.toList_inj.1
 rw [ByteArray.data_extract, Array.toList_extract, List.extract_eq_take_drop, drop_byte s i h, show i + 1 - i = 1 from by omega]
 rfl
theorem miss_marks (l : List S33) (hl : l.length ≤ 100000) (s : ByteArray) (hs : s.size ≤ 1000) : ∀ (n k i : Nat), i + n = s.size → n + l.length + 40 ≤ k → r9_Missing.l1 k l s (i : Int) = some (missGo l (wBytes 6 (s.data.toList.drop i) ++ (wBytes 7 (upB 48 10) ++ wNames.map (wRule 8))))
 | 0, k, i, hi, hk => by
  obtain ⟨k, rfl⟩ : ∃ m, k = m + 1 := ⟨k - 1, by omega⟩
  have h := miss_digits l hl 10 k 0 (by omega) (by omega)
  rw [show ((0 : Nat) : Int) = 0 from rfl, List.drop_zero] at h
  rw [r9_Missing.l1, if_neg (by omega), List.drop_of_length_le (by rw [list_len]; omega), h]
  rfl
 | n + 1, k, i, hi, hk => by
  obtain ⟨k, rfl⟩ : ∃ m, k = m + 1 := ⟨k - 1, by omega⟩
  have hlt : i < s.size := by omega
  have ew : wrap64 ((i : Int) + 1) = ((i + 1 : Nat) : Int) := by rw [wrap_of (by omega) (by omega)]; omega
  rw [r9_Missing.l1, if_pos (by omega), if_pos (by omega), ew, if_pos (by omega), if_pos (by omega), show ((i : Int)).toNat = i from by omega, show (((i + 1 : Nat)) : Int).toNat = i + 1 from by omega, one_byte s i hlt,
   has_ref l hl 6 _ k (by omega), Option.bind_some, drop_byte s i hlt, miss_marks l hl s hs n k (i + 1) (by omega) (by omega)]
  show _ = some (missGo l (wRule 6 ⟨#[s[i]]⟩ :: (wBytes 6 (s.data.toList.drop (i + 1)) ++ (wBytes 7 (upB 48 10) ++ wNames.map (wRule 8)))))
  rw [missGo]
  show _ = some (if l.any (isOf 6 (⟨#[s[i]]⟩ : ByteArray)) = true then _ else (⟨#[s[i]]⟩ : ByteArray))
  split <;> rfl
theorem miss_letters (l : List S33) (hl : l.length ≤ 100000) : ∀ (n k i : Nat), i + n = 26 → n + l.length + 60 ≤ k → r9_Missing.l0 k l (i : Int) = some (missGo l (wBytes 1 ((upB 97 26).drop i) ++ (wBytes 6 wMarks ++ (wBytes 7 (upB 48 10) ++ wNames.map (wRule 8)))))
 | 0, k, i, hi, hk => by
  obtain ⟨k, rfl⟩ : ∃ m, k = m + 1 := ⟨k - 1, by omega⟩
  have h26 : i = 26 := by omega
  subst h26
  have h := miss_marks l hl ⟨#[46, 44, 59, 58, 33, 63, 39, 34, 45, 40, 41, 47]⟩ (by decide) 12 k 0 (by decide) (by omega)
  rw [show ((0 : Nat) : Int) = 0 from rfl, List.drop_zero] at h
  rw [r9_Missing.l0, if_neg (by decide)]
  show r9_Missing.l1 k l ⟨#[46, 44, 59, 58, 33, 63, 39, 34, 45, 40, 41, 47]⟩ 0 = _
  rw [h]
  rfl
 | n + 1, k, i, hi, hk => by
  obtain ⟨k, rfl⟩ : ∃ m, k = m + 1 := ⟨k - 1, by omega⟩
  have hb := byte_str 97 i (by omega)
  rw [show ((97 : Nat) : Int) = 97 from rfl] at hb
  rw [r9_Missing.l0, if_pos (by omega), Option.bind_some, hb, has_ref l hl 1 _ k (by omega), Option.bind_some, up_drop 97 26 i (by omega), wrap_of (x := (i : Int) + 1) (by omega) (by omega), show ((i : Int) + 1) = ((i + 1 : Nat) : Int) from by omega,
   miss_letters l hl n k (i + 1) (by omega) (by omega)]
  show _ = some (missGo l (wRule 1 ⟨#[UInt8.ofNat (97 + i)]⟩ :: (wBytes 1 ((upB 97 26).drop (i + 1)) ++ (wBytes 6 wMarks ++ (wBytes 7 (upB 48 10) ++ wNames.map (wRule 8))))))
  rw [missGo]
  show _ = some (if l.any (isOf 1 ⟨#[UInt8.ofNat (97 + i)]⟩) = true then _ else (⟨#[UInt8.ofNat (97 + i)]⟩ : ByteArray))
  split <;> rfl
theorem missing_ref (l : List S33) (hl : l.length ≤ 100000) (k : Nat) (hk : l.length + 86 ≤ k) : r9_Missing.f k l = some (missGo l wantedL) := by
 have h := miss_letters l hl 26 k 0 (by omega) (by omega)
 rw [show ((0 : Nat) : Int) = 0 from rfl, List.drop_zero] at h
 unfold r9_Missing.f
 rw [h]
 unfold wantedL
 simp only [List.append_assoc]
def Short (x : S33) : Prop := x.f1.size ≤ 50 ∧ x.f2.size ≤ 50
theorem alone_kept (x : S33) (h : aloneB x = true) (hk : keptB x = true) : x.f2.size = 1 := by
 unfold aloneB mayB mostN at h
 rw [if_pos (Or.inl hk)] at h
 simp only [Bool.and_eq_true, decide_eq_true_eq] at h
 have := print_pos _ h.1.1.2
 omega
def tabB (pre : List S33) : List S33 → Option Int
 | [] => none
 | x :: l => if aloneB x = true then (if pre.any (clashB x) = true then some x.f4 else tabB (pre ++ [x]) l) else some x.f4
theorem alone_O (x : S33) (h : Short x) : aloneO x = some (aloneB x) := alone_check x 200 (by have := h.1; omega) (by have := h.2; omega) (by have := h.2; omega)
theorem clash_O (x y : S33) (hx : aloneB x = true) (hy : aloneB y = true) : clashO x y = some (clashB x y) := clash_check x y 200 (by omega) (alone_kept x hx) (alone_kept y hy)
theorem tab_check : ∀ (l pre : List S33), (∀ x ∈ l, Short x) → (∀ x ∈ pre, aloneB x = true) → tabGo pre l = some (tabB pre l)
 | [], pre, _, _ => rfl
 | x :: l, pre, hl, hp => by
  rw [tabGo, tabB, alone_O x (hl x List.mem_cons_self), Option.bind_some]
  by_cases ha : aloneB x = true
  ·
   rw [if_pos ha, if_pos ha]
   have hall : pre.all (fun y => (clashO x y).isSome) = true := by
    rw [List.all_eq_true]
    intro y hy
    rw [clash_O x y ha (hp y hy)]
    rfl
   have hany : pre.any (fun y => (clashO x y).getD false) = pre.any (clashB x) := by
    rw [Bool.eq_iff_iff, List.any_eq_true, List.any_eq_true]
    constructor
    ·
     rintro ⟨y, hy, h⟩
     rw [clash_O x y ha (hp y hy)] at h
     exact ⟨y, hy, h⟩
    ·
     rintro ⟨y, hy, h⟩
     refine ⟨y, hy, ?_⟩
     rw [clash_O x y ha (hp y hy)]
     exact h
   rw [if_pos hall, hany]
   split
   ·
    rfl
   ·
    exact tab_check l (pre ++ [x]) (fun y hy => hl y (List.mem_cons_of_mem _ hy)) (fun y hy => by
     rcases List.mem_append.1 hy with h | h
     ·
      exact hp y h
     ·
      rw [List.mem_singleton.1 h]; exact ha)
  ·
   rw [if_neg ha, if_neg ha]
def lastB (l : List S33) : Int × Int := if 400 < l.length then (0, 4) else if (missGo l wantedL).toList = [] then (0, 0) else (0, 6)
def tableB (l : List S33) : Int × Int := match tabB [] l with
 | some line => (line, 6)
 | none => lastB l
theorem table_check (l : List S33) (hl : l.length ≤ 100000) (hs : ∀ x ∈ l, Short x) : check_Table.f l = some (tableB l) := by
 unfold check_Table.f tableB lastB
 rw [if_pos (by omega), tab_check l [] hs (by intro x hx; cases hx), Option.bind_some]
 cases tabB [] l with
 | some line => rfl
 | none =>
  simp only [List.isEmpty_iff]
  split
  ·
   rfl
  ·
   split <;> rfl
theorem table_clashes (L : List S33) (hl : L.length ≤ 100000) (hs : ∀ x ∈ L, Short x) (i : Nat) (hi : i < L.length) : ∀ (n k j : Nat), j + n = i → n + 250 ≤ k → ∃ k', k' + n + 1 = k ∧
  r9_Table.l1 k L (i : Int) (j : Int) = if ((L.take i).drop j).any (clashB L[i]) = true then some (L[i].f4, 6) else r9_Table.l0 k' L ((i + 1 : Nat) : Int)
 | 0, k, j, hj, hk => by
  obtain ⟨k, rfl⟩ : ∃ m, k = m + 1 := ⟨k - 1, by omega⟩
  refine ⟨k, by omega, ?_⟩
  rw [r9_Table.l1, if_neg (by omega), List.drop_of_length_le (by rw [List.length_take]; omega), if_neg (by simp), wrap_of (by omega) (by omega)]
  congr 1
 | n + 1, k, j, hj, hk => by
  obtain ⟨k, rfl⟩ : ∃ m, k = m + 1 := ⟨k - 1, by omega⟩
  have hjl : j < L.length := by omega
  obtain ⟨k', hk', ih⟩ := table_clashes L hl hs i hi n k (j + 1) (by omega) (by omega)
  refine ⟨k', by omega, ?_⟩
  have hd : (L.take i).drop j = L[j] :: (L.take i).drop (j + 1) := by
   rw [List.drop_eq_getElem_cons (by rw [List.length_take]; omega), List.getElem_take]
  have s1 := hs L[i] (List.getElem_mem _)
  have s2 := hs L[j] (List.getElem_mem _)
  have hc := clash_ref L[i] L[j] k (by have := s1.2; have := s2.2; omega) (by have := s1.2; omega) (by have := s2.2; omega)
  rw [r9_Table.l1, if_pos (by omega), if_pos (by omega), if_pos (by omega), if_pos (by omega), if_pos (by omega), rd23 L i hi, rd23 L j hjl, hc, Option.bind_some, hd, List.any_cons, wrap_of (by omega) (by omega), show ((j : Int) + 1) = ((j + 1 : Nat) : Int) from by omega, ih]
  cases clashB L[i] L[j] with
  | true => rfl
  | false => rw [if_neg (by decide), Bool.false_or]
theorem table_go (L : List S33) (hl : L.length ≤ 100000) (hs : ∀ x ∈ L, Short x) : ∀ (n k i : Nat), i + n = L.length → n * (L.length + 3) + L.length + 300 ≤ k →
  r9_Table.l0 k L (i : Int) = some (match tabB (L.take i) (L.drop i) with
   | some line => (line, 6)
   | none => lastB L)
 | 0, k, i, hi, hk => by
  obtain ⟨k, rfl⟩ : ∃ m, k = m + 1 := ⟨k - 1, by omega⟩
  rw [r9_Table.l0, if_neg (by omega), List.drop_of_length_le (by omega), tabB, missing_ref L hl k (by omega)]
  unfold lastB
  by_cases h4 : (L.length : Int) > 400
  ·
   rw [if_pos h4, if_pos (by omega)]
  ·
   rw [if_neg h4, if_neg (by omega), Option.bind_some]
   split <;> rfl
 | n + 1, k, i, hi, hk => by
  obtain ⟨k, rfl⟩ : ∃ m, k = m + 1 := ⟨k - 1, by omega⟩
  have hlt : i < L.length := by omega
  have hM : (n + 1) * (L.length + 3) = n * (L.length + 3) + (L.length + 3) := Nat.succ_mul _ _
  have hd : L.drop i = L[i] :: L.drop (i + 1) := List.drop_eq_getElem_cons hlt
  have s1 := hs L[i] (List.getElem_mem _)
  have ha := alone_ref L[i] k (by have := s1.1; omega) (by have := s1.2; omega) (by have := s1.1; have := s1.2; omega)
  rw [r9_Table.l0, if_pos (by omega), if_pos (by omega), rd23 L i hlt, ha, Option.bind_some, hd, tabB]
  by_cases hal : aloneB L[i] = true
  ·
   rw [if_pos hal, if_pos hal]
   obtain ⟨k', hk', h⟩ := table_clashes L hl hs i hlt i k 0 (by omega) (by omega)
   rw [show ((0 : Nat) : Int) = 0 from rfl, List.drop_zero] at h
   rw [h]
   by_cases hc : (L.take i).any (clashB L[i]) = true
   ·
    rw [if_pos hc, if_pos hc]
   ·
    have htk : L.take (i + 1) = L.take i ++ [L[i]] := by
     rw [List.take_add_one, List.getElem?_eq_getElem hlt]
     rfl
    rw [if_neg hc, if_neg hc, table_go L hl hs n k' (i + 1) (by omega) (by omega), htk]
  ·
   rw [if_neg hal, if_neg hal]
theorem table_ref (L : List S33) (hl : L.length ≤ 100000) (hs : ∀ x ∈ L, Short x) (k : Nat) (hk : L.length * (L.length + 3) + L.length + 300 ≤ k) : r9_Table.f k L = some (tableB L) := by
 have h := table_go L hl hs L.length k 0 (by omega) hk
 rw [show ((0 : Nat) : Int) = 0 from rfl] at h
 exact h
end Go.Proofs.Ytbpbniemjjhecaa.PureC
