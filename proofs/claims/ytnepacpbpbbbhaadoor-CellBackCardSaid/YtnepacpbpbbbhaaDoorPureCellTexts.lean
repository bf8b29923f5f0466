/- The pure statement of CellTexts: of texts and cells of at most 2000 bytes the program's answers are the document's: the cells of a text, the text of cells, signs, the cells of signs, how many dots; or why not, and where. -/
import Derived.Test.YtnepacpbpbbbhaaDoorPureCellParse
import Derived.Test.YtnepacpbpbbbhaaDoorPCell5
namespace Go.Proofs.YtnepacpbpbbbhaaDoor.Pure
open Go.RowKit Go.Proofs.YtnepacpbpbbbhaaDoor.PCell Go.Proofs.YtnepacpbpbbbhaaDoor.G Go.Proofs.YtnepacpbpbbbhaaDoorW.PrintWords Go.Proofs.YtnepacpbpbbbhaaDoorW.PrintLast

def dotsOf (c : Nat) : ByteArray := (cell_Dots.f 100 (c : Int)).getD ⟨#[]⟩
theorem dotsOf_at (k c : Nat) (hk : 100 ≤ k) (hc : c < 256) : cell_Dots.f k (c : Int) = some (dotsOf c) := by
  have h := dots_some ⟨c, hc⟩
  obtain ⟨d, hd⟩ := Option.isSome_iff_exists.1 h
  have e : dotsOf c = d := by simp only at hd; simp [dotsOf, hd]
  rw [e]
  exact dots_at k hk _ d hd
theorem refDots_at (k c : Nat) (hk : 100 ≤ k) (hc : c < 256) : stylusref02_Dots.f k (c : Int) = some (dotsOf c) := by
  have h := dots_same ⟨c, hc⟩
  simp only at h
  rw [dotsOf_at 100 c (Nat.le_refl _) hc] at h
  exact at_rounds (g := fun k => stylusref02_Dots.f k (c : Int)) (fun k => stylusref02_Dots.mono _ k) hk h.symm
theorem dotsOf_size : ∀ c : Fin 256, ((dotsOf c.val).size : Int) = oc (c.val : Int) := by decide +kernel
theorem sign_at (c : Nat) (hc : c < 256) : stylusref02_Sign.f (c : Int) = some (signF (c : Int)) := by
  have h : ∀ c : Fin 256, stylusref02_Sign.f (c.val : Int) = some (signF (c.val : Int)) := by decide +kernel
  exact h ⟨c, hc⟩
theorem from_at (k c : Nat) (hk : 100 ≤ k) (hc : c < 256) : stylusref02_From.f k (c : Int) = some (fromF (c : Int)) := by
  have h : ∀ c : Fin 256, stylusref02_From.f 100 (c.val : Int) = some (fromF (c.val : Int)) := by decide +kernel
  exact at_rounds (g := fun k => stylusref02_From.f k (c : Int)) (fun k => stylusref02_From.mono _ k) hk (h ⟨c, hc⟩)

/-! ### signs and cells -/
theorem signs_go (s : ByteArray) (hs : s.size ≤ 2000) (fuel : Nat) : ∀ (k i : Nat) (acc : List Int), i + fuel = s.size → acc.length = i → fuel + 10 ≤ k →
    stylusref02_Signs.l0 k s acc (i : Int) = some (if 0 ≤ (eachGo signF (s.data.toList.drop i) acc (i : Int)).2 then (⟨#[]⟩, 1) else (strOfNums (eachGo signF (s.data.toList.drop i) acc (i : Int)).1, 0)) := by
  induction fuel with
  | zero =>
    intro k i acc hi hl hk
    obtain ⟨k, rfl⟩ : ∃ m, k = m + 1 := ⟨k - 1, by omega⟩
    rw [stylusref02_Signs.l0, if_neg (by omega), List.drop_of_length_le (by simp; omega), eachGo]
    rfl
  | succ fuel ih =>
    intro k i acc hi hl hk
    obtain ⟨k, rfl⟩ : ∃ m, k = m + 1 := ⟨k - 1, by omega⟩
    have hlt : i < s.size := by omega
    have hb := s[i].toNat_lt
    rw [stylusref02_Signs.l0, if_pos (by omega), if_pos (by omega), bt_of s i hlt, sign_at _ (by omega), Option.bind_some, drop_at s i hlt, eachGo]
    by_cases h : (signF (s[i].toNat : Int)).2 = true
    · rw [if_pos h, if_pos h, if_pos (by omega), wrap_of (x := (i : Int) + 1) (by omega) (by omega)]
      exact ih k (i + 1) _ (by omega) (by simp; omega) (by omega)
    · rw [if_neg h, if_neg h]
      simp only
      rw [if_pos (by omega)]
theorem cells_go (s : ByteArray) (hs : s.size ≤ 2000) (fuel : Nat) : ∀ (k i : Nat) (acc : List Int), i + fuel = s.size → acc.length = i → fuel + 110 ≤ k →
    stylusref02_Cells.l0 k s acc (i : Int) = some (if 0 ≤ (eachGo fromF (s.data.toList.drop i) acc (i : Int)).2 then (⟨#[]⟩, (eachGo fromF (s.data.toList.drop i) acc (i : Int)).2, 2) else (strOfNums (eachGo fromF (s.data.toList.drop i) acc (i : Int)).1, 0, 0)) := by
  induction fuel with
  | zero =>
    intro k i acc hi hl hk
    obtain ⟨k, rfl⟩ : ∃ m, k = m + 1 := ⟨k - 1, by omega⟩
    rw [stylusref02_Cells.l0, if_neg (by omega), List.drop_of_length_le (by simp; omega), eachGo]
    rfl
  | succ fuel ih =>
    intro k i acc hi hl hk
    obtain ⟨k, rfl⟩ : ∃ m, k = m + 1 := ⟨k - 1, by omega⟩
    have hlt : i < s.size := by omega
    have hb := s[i].toNat_lt
    rw [stylusref02_Cells.l0, if_pos (by omega), if_pos (by omega), bt_of s i hlt, from_at k _ (by omega) (by omega), Option.bind_some, drop_at s i hlt, eachGo]
    by_cases h : (fromF (s[i].toNat : Int)).2 = true
    · rw [if_pos h, if_pos h, if_pos (by omega), wrap_of (x := (i : Int) + 1) (by omega) (by omega)]
      exact ih k (i + 1) _ (by omega) (by simp; omega) (by omega)
    · rw [if_neg h, if_neg h]
      simp only
      rw [if_pos (by omega)]
theorem signs_same (s : ByteArray) (hs : s.size ≤ 2000) (k : Nat) (hk : s.size + 200 ≤ k) : stylusref02_Signs.f k s = cell_Signs.f s := by
  have h := signs_go s hs s.size k 0 [] (by omega) rfl (by omega)
  unfold cell_Signs.f
  rw [if_pos (by omega)]
  exact h
theorem cells_same (s : ByteArray) (hs : s.size ≤ 2000) (k : Nat) (hk : s.size + 200 ≤ k) : stylusref02_Cells.f k s = cell_Cells.f s := by
  have h := cells_go s hs s.size k 0 [] (by omega) rfl (by omega)
  unfold cell_Cells.f
  rw [if_pos (by omega)]
  exact h

/-! ### how many dots -/
def cnt : List UInt8 → Int → Int
  | [], acc => acc
  | b :: l, acc => cnt l (acc + oc (b.toNat : Int))
theorem oc_of (b : UInt8) : 0 ≤ oc (b.toNat : Int) ∧ oc (b.toNat : Int) ≤ 8 := oc_le ⟨b.toNat, b.toNat_lt⟩
theorem count_go (s : ByteArray) (hs : s.size ≤ 2000) (fuel : Nat) : ∀ (k i : Nat) (acc : Int), i + fuel = s.size → 0 ≤ acc → acc ≤ 8 * i → fuel + 10 ≤ k →
    cell_Count.l0 k s acc (s.size : Int) (i : Int) = some (cnt (s.data.toList.drop i) acc) := by
  induction fuel with
  | zero =>
    intro k i acc hi h0 h1 hk
    obtain ⟨k, rfl⟩ : ∃ m, k = m + 1 := ⟨k - 1, by omega⟩
    obtain rfl : i = s.size := by omega
    rw [count_end, List.drop_of_length_le (by simp), cnt]
  | succ fuel ih =>
    intro k i acc hi h0 h1 hk
    obtain ⟨k, rfl⟩ : ∃ m, k = m + 1 := ⟨k - 1, by omega⟩
    have hlt : i < s.size := by omega
    have ho := oc_of s[i]
    rw [count_step k s acc i s[i].toNat s[i].toNat_lt hlt (bt_of s i hlt) h0 (by omega) (by omega), drop_at s i hlt, cnt]
    exact ih k (i + 1) _ (by omega) (by omega) (by omega) (by omega)
theorem refcount_go (s : ByteArray) (hs : s.size ≤ 2000) (fuel : Nat) : ∀ (k i : Nat) (acc : Int), i + fuel = s.size → 0 ≤ acc → acc ≤ 8 * i → fuel + 110 ≤ k →
    stylusref02_Count.l0 k s acc (i : Int) = some (cnt (s.data.toList.drop i) acc) := by
  induction fuel with
  | zero =>
    intro k i acc hi h0 h1 hk
    obtain ⟨k, rfl⟩ : ∃ m, k = m + 1 := ⟨k - 1, by omega⟩
    rw [stylusref02_Count.l0, if_neg (by omega), List.drop_of_length_le (by simp; omega), cnt]
  | succ fuel ih =>
    intro k i acc hi h0 h1 hk
    obtain ⟨k, rfl⟩ : ∃ m, k = m + 1 := ⟨k - 1, by omega⟩
    have hlt : i < s.size := by omega
    have ho := oc_of s[i]
    have hz := dotsOf_size ⟨s[i].toNat, s[i].toNat_lt⟩
    simp only at hz
    rw [stylusref02_Count.l0, if_pos (by omega), if_pos (by omega), bt_of s i hlt, refDots_at k _ (by omega) s[i].toNat_lt, Option.bind_some, hz, wrap_of (x := acc + oc (s[i].toNat : Int)) (by omega) (by omega), wrap_of (x := (i : Int) + 1) (by omega) (by omega), drop_at s i hlt, cnt]
    exact ih k (i + 1) _ (by omega) (by omega) (by omega) (by omega)

/-! ### the text of cells -/
def dl (c : UInt8) : List UInt8 := (dotsOf c.toNat).data.toList
def jd (cs : List UInt8) : List UInt8 := Lib.join (cs.map dl) [45]
def okc (c : UInt8) : Bool := decide (0 < c.toNat) && decide (c.toNat < 64)
def printOf (cs : List UInt8) : ByteArray × Int := if cs.all okc = true ∧ 1 ≤ cs.length ∧ cs.length ≤ 4 then (⟨(jd cs).toArray⟩, 0) else (⟨#[]⟩, 1)
theorem join_two (x y : List UInt8) (l : List (List UInt8)) (sep : List UInt8) : Lib.join (x :: y :: l) sep = x ++ (sep ++ Lib.join (y :: l) sep) := by simp [Lib.join, List.intercalate]
theorem jd_one (c : UInt8) : jd [c] = dl c := by simp [jd, Lib.join, List.intercalate]
theorem jd_cons (x y : UInt8) (l : List UInt8) : jd (x :: y :: l) = dl x ++ 45 :: jd (y :: l) := by
  unfold jd
  rw [List.map_cons, List.map_cons, join_two]
  rfl
theorem jd_snoc (c : UInt8) : ∀ cs : List UInt8, cs ≠ [] → jd (cs ++ [c]) = jd cs ++ 45 :: dl c
  | [], h => absurd rfl h
  | [x], _ => by rw [List.singleton_append, jd_cons, jd_one, jd_one]
  | x :: y :: l, _ => by
    have ih := jd_snoc c (y :: l) (by simp)
    rw [List.cons_append, List.cons_append, jd_cons, ← List.cons_append, ih, jd_cons]
    simp
theorem dl_len (c : UInt8) : (dl c).length ≤ 8 := by
  have h := dotsOf_size ⟨c.toNat, c.toNat_lt⟩
  have h2 := oc_of c
  simp only at h
  have : (dl c).length = (dotsOf c.toNat).size := by simp [dl]
  omega
theorem jd_len : ∀ cs : List UInt8, (jd cs).length ≤ 9 * cs.length
  | [] => by simp [jd, Lib.join, List.intercalate]
  | [x] => by rw [jd_one]; have := dl_len x; simp; omega
  | x :: y :: l => by
    have ih := jd_len (y :: l)
    have := dl_len x
    rw [jd_cons]
    simp at ih ⊢
    omega
theorem print_go (s : ByteArray) (hs : s.size ≤ 2000) (fuel : Nat) : ∀ (k i : Nat), i + fuel = s.size → (s.data.toList.take i).all okc = true → fuel + 110 ≤ k →
    cell_Print.l0 k s ((s.data.toList.take i).map fun c => dotsOf c.toNat) (s.size : Int) (i : Int) = some (printOf s.data.toList) := by
  induction fuel with
  | zero =>
    intro k i hi ha hk
    obtain ⟨k, rfl⟩ : ∃ m, k = m + 1 := ⟨k - 1, by omega⟩
    have hfull : s.data.toList.take i = s.data.toList := List.take_of_length_le (by simp; omega)
    have hlen : s.data.toList.length = s.size := by simp
    rw [hfull] at ha ⊢
    rw [cell_Print.l0, if_neg (by omega)]
    unfold printOf
    have hml : (s.data.toList.map fun c => dotsOf c.toNat).length = s.size := by rw [List.length_map, hlen]
    by_cases h0 : s.size = 0
    · rw [if_pos (by omega), if_neg (by omega)]
    · rw [if_neg (by omega)]
      by_cases h4 : 4 < s.size
      · rw [if_pos (by omega), if_neg (by omega)]
      · have hj := jd_len s.data.toList
        have e : ((s.data.toList.map fun c => dotsOf c.toNat).map (·.data.toList)) = s.data.toList.map dl := by simp [dl, List.map_map, Function.comp_def]
        have hjl : (Lib.join (s.data.toList.map dl) [45]).length ≤ 140737488355328 := by
          show (jd s.data.toList).length ≤ _
          omega
        rw [if_neg (by omega), if_pos ⟨ha, by omega, by omega⟩, strings_Join.f, e, if_pos ⟨by rw [hml]; omega, hjl⟩]
        rfl
  | succ fuel ih =>
    intro k i hi ha hk
    obtain ⟨k, rfl⟩ : ∃ m, k = m + 1 := ⟨k - 1, by omega⟩
    have hlt : i < s.size := by omega
    have hb := s[i].toNat_lt
    have hget : s.data.toList[i]? = some s[i] := by rw [List.getElem?_eq_getElem (by simpa using hlt)]; rfl
    have hno : okc s[i] = false → printOf s.data.toList = (⟨#[]⟩, 1) := fun h => by
      unfold printOf
      rw [if_neg (fun h2 => by
        have h3 := List.all_eq_true.1 h2.1 s[i] (List.mem_of_getElem? hget)
        rw [h] at h3
        cases h3)]
    rw [cell_Print.l0, if_pos (by omega), if_pos (by omega), if_pos (by omega), bt_of s i hlt, cell_may.f, Option.bind_some]
    by_cases h64 : s[i].toNat < 64
    · rw [if_pos (by simp; omega)]
      by_cases h0 : s[i].toNat = 0
      · rw [if_pos (by omega), hno (by simp [okc, h0])]
      · rw [if_neg (by omega), dotsOf_at k _ (by omega) hb, Option.bind_some, if_pos (by simp; omega), wrap_of (x := (i : Int) + 1) (by omega) (by omega)]
        have e : s.data.toList.take (i + 1) = s.data.toList.take i ++ [s[i]] := by rw [List.take_add_one, hget]; rfl
        have hx := ih k (i + 1) (by omega) (by rw [e, List.all_append, ha]; simp [okc]; omega) (by omega)
        rw [e, List.map_append] at hx
        exact hx
    · rw [if_neg (by simp; omega), hno (by simp [okc]; omega)]
theorem print_at (s : ByteArray) (hs : s.size ≤ 2000) (k : Nat) (hk : s.size + 200 ≤ k) : cell_Print.f k s = some (printOf s.data.toList) := by
  have h := print_go s hs s.size k 0 (by omega) rfl (by omega)
  exact h
theorem refprint_go (s : ByteArray) (hs : s.size ≤ 4) (h1 : 1 ≤ s.size) (fuel : Nat) : ∀ (k i : Nat) (x : ByteArray), i + fuel = s.size → (s.data.toList.take i).all okc = true → x.data.toList = jd (s.data.toList.take i) → 2 * fuel + 110 ≤ k →
    stylusref02_Print.l0 k s x (i : Int) = some (printOf s.data.toList) := by
  induction fuel with
  | zero =>
    intro k i x hi ha hx hk
    obtain ⟨k, rfl⟩ : ∃ m, k = m + 1 := ⟨k - 1, by omega⟩
    have hfull : s.data.toList.take i = s.data.toList := List.take_of_length_le (by simp; omega)
    have hlen : s.data.toList.length = s.size := by simp
    rw [hfull] at ha hx
    rw [stylusref02_Print.l0, if_neg (by omega), printOf, if_pos ⟨ha, by omega, by omega⟩]
    rw [show x = ⟨(jd s.data.toList).toArray⟩ from text_eq hx]
  | succ fuel ih =>
    intro k i x hi ha hx hk
    obtain ⟨k, rfl⟩ : ∃ m, k = m + 2 := ⟨k - 2, by omega⟩
    have hlt : i < s.size := by omega
    have hb := s[i].toNat_lt
    have hget : s.data.toList[i]? = some s[i] := by rw [List.getElem?_eq_getElem (by simpa using hlt)]; rfl
    have hno : okc s[i] = false → printOf s.data.toList = (⟨#[]⟩, 1) := fun h => by
      unfold printOf
      rw [if_neg (fun h2 => by
        have h3 := List.all_eq_true.1 h2.1 s[i] (List.mem_of_getElem? hget)
        rw [h] at h3
        cases h3)]
    have e : s.data.toList.take (i + 1) = s.data.toList.take i ++ [s[i]] := by rw [List.take_add_one, hget]; rfl
    have hjl := jd_len (s.data.toList.take i)
    have htl : (s.data.toList.take i).length ≤ i := List.length_take_le _ _
    have hxs : x.size ≤ 36 := by have : x.size = x.data.toList.length := by simp
                                 rw [this, hx]; omega
    have hds : (dotsOf s[i].toNat).size ≤ 8 := by have := dl_len s[i]; simpa [dl] using this
    rw [stylusref02_Print.l0, if_pos (by omega), if_pos (by omega), bt_of s i hlt]
    by_cases h0 : s[i].toNat = 0
    · rw [if_pos (by omega), stylusref02_Print.j2, if_pos rfl, hno (by simp [okc, h0])]
    · rw [if_neg (by omega)]
      by_cases h64 : s[i].toNat < 64
      · rw [show decide ((s[i].toNat : Int) > 63) = false from by simp; omega, stylusref02_Print.j2, if_neg (by decide), bt_of s i hlt, refDots_at k _ (by omega) hb]
        have hall : (s.data.toList.take (i + 1)).all okc = true := by rw [e, List.all_append, ha]; simp [okc]; omega
        by_cases hi0 : i = 0
        · subst hi0
          rw [if_neg (by omega), if_pos (by omega), if_pos (by omega), Option.bind_some, if_pos (by omega), wrap_of (x := ((0 : Nat) : Int) + 1) (by omega) (by omega)]
          refine ih k 1 _ (by omega) hall ?_ (by omega)
          rw [e]
          have hx0 : x.data.toList = [] := by rw [hx]; rfl
          simp only [List.take_zero, List.nil_append, jd_one, ByteArray.data_append, Array.toList_append, hx0]
          rfl
        · have hs1 : (x ++ (⟨#[45]⟩ : ByteArray)).size = x.size + 1 := by rw [ByteArray.size_append]; rfl
          rw [if_pos (by omega), if_pos (by omega), if_pos (by omega), if_pos (by omega), Option.bind_some, if_pos (by omega), wrap_of (x := (i : Int) + 1) (by omega) (by omega)]
          refine ih k (i + 1) _ (by omega) hall ?_ (by omega)
          rw [e, jd_snoc _ _ (fun h => by have h5 := congrArg List.length h; rw [List.length_take, show s.data.toList.length = s.size from by simp, List.length_nil] at h5; omega), ← hx]
          simp [ByteArray.data_append, dl]
      · rw [show decide ((s[i].toNat : Int) > 63) = true from by simp; omega, stylusref02_Print.j2, if_pos rfl, hno (by simp [okc]; omega)]
theorem refprint_at (s : ByteArray) (hs : s.size ≤ 2000) (k : Nat) (hk : s.size + 200 ≤ k) : stylusref02_Print.f k s = some (printOf s.data.toList) := by
  obtain ⟨k, rfl⟩ : ∃ m, k = m + 1 := ⟨k - 1, by omega⟩
  have hlen : s.data.toList.length = s.size := by simp
  unfold stylusref02_Print.f
  by_cases h0 : s.size = 0
  · rw [if_pos (by omega), stylusref02_Print.j0, if_pos rfl, printOf, if_neg (by omega)]
  · rw [if_neg (by omega), stylusref02_Print.j0]
    by_cases h4 : 4 < s.size
    · rw [if_pos (by simp; omega), printOf, if_neg (by omega)]
    · rw [if_neg (by simp; omega)]
      exact refprint_go s (by omega) (by omega) s.size k 0 ⟨#[]⟩ (by omega) rfl rfl (by omega)

/-! ### the statement -/
theorem splitOn_size (b : UInt8) : ∀ l : List UInt8, (splitOn b l).length ≤ l.length + 1 ∧ ∀ p ∈ splitOn b l, p.length ≤ l.length
  | [] => ⟨by simp [splitOn], by simp [splitOn]⟩
  | c :: l => by
    obtain ⟨h1, h2⟩ := splitOn_size b l
    unfold splitOn
    split
    · refine ⟨by simp; omega, ?_⟩
      intro p hp
      rcases List.mem_cons.1 hp with rfl | hp
      · simp
      · have := h2 p hp
        simp
        omega
    · refine ⟨by simp; omega, ?_⟩
      intro p hp
      rcases List.mem_cons.1 hp with rfl | hp
      · cases h : splitOn b l with
        | nil => simp
        | cons x xs =>
          have := h2 x (by rw [h]; simp)
          simp
          omega
      · have := h2 p (List.mem_of_mem_tail hp)
        simp
        omega
theorem parts_length (b : UInt8) (s : ByteArray) : (parts b s).length ≤ s.size + 1 := by
  have h := (splitOn_size b s.data.toList).1
  simpa [parts] using h
theorem parts_size (b : UInt8) (s : ByteArray) (p : ByteArray) (hp : p ∈ parts b s) : p.size ≤ s.size := by
  obtain ⟨l, hl, rfl⟩ := List.mem_map.1 hp
  have h := (splitOn_size b s.data.toList).2 l hl
  have e : s.data.toList.length = s.size := by simp
  show l.length ≤ s.size
  omega
theorem texts1 (k : Nat) (x y : ByteArray) (hx : x.size ≤ 2000) (hy : y.size ≤ 2000) (hk : x.size + y.size + 300 ≤ k) : styluslaw02_CellTexts.j1 k x y false = some true := by
  obtain ⟨k, rfl⟩ : ∃ m, k = m + 1 := ⟨k - 1, by omega⟩
  rw [styluslaw02_CellTexts.j1, if_neg (by decide), print_at y hy k (by omega), refprint_at y hy k (by omega), signs_same y hy k (by omega), cells_same x hx k (by omega)]
  have hs := signs_go y hy y.size (y.size + 10) 0 [] (by omega) rfl (by omega)
  have hs2 : ∃ r, cell_Signs.f y = some r := by
    have := signs_same y hy (y.size + 200) (by omega)
    rw [← this]
    exact ⟨_, signs_go y hy y.size (y.size + 200) 0 [] (by omega) rfl (by omega)⟩
  have hc2 : ∃ r, cell_Cells.f x = some r := by
    have := cells_same x hx (x.size + 200) (by omega)
    rw [← this]
    exact ⟨_, cells_go x hx x.size (x.size + 200) 0 [] (by omega) rfl (by omega)⟩
  obtain ⟨r1, e1⟩ := hs2
  obtain ⟨r2, e2⟩ := hc2
  have hn1 : cell_Count.f k y = some (cnt y.data.toList 0) := count_go y hy y.size k 0 0 (by omega) (by omega) (by omega) (by omega)
  have hn2 : stylusref02_Count.f k y = some (cnt y.data.toList 0) := refcount_go y hy y.size k 0 0 (by omega) (by omega) (by omega) (by omega)
  rw [e1, e2, Option.bind_some, Option.bind_some, Option.bind_some, Option.bind_some, Option.bind_some, Option.bind_some, if_pos rfl, if_pos rfl, if_pos rfl, if_pos rfl, if_pos rfl, if_pos rfl, if_pos rfl, hn1, hn2, Option.bind_some, Option.bind_some, if_pos rfl, awake_at k (by omega)]
  rfl
theorem CellTexts : styluslaw02_CellTexts.Pure := by
  intro a0 a1 h0 h1
  refine ⟨3 * a0.size + 3 * a1.size + 601, ?_⟩
  unfold styluslaw02_CellTexts.f
  by_cases b0 : a0.size ≤ 2000
  · by_cases b1 : a1.size ≤ 2000
    · rw [if_neg (by omega), show decide ((a1.size : Int) > 2000) = false from by simp; omega, styluslaw02_CellTexts.j0, if_neg (by decide), parse_at a0 b0, parse_same a0 b0 _ (by omega), Option.bind_some, Option.bind_some]
      have ht : ∀ x : ByteArray, (x.toList != x.toList) = false := fun x => by simp
      have hps : ∀ p ∈ parts 45 a0, p.size ≤ 2000 := fun p hp => Nat.le_trans (parts_size 45 a0 p hp) b0
      have hpl := parts_length 45 a0
      have hf := parseGo_form (parts 45 a0) [] 0 (by omega) hps (by omega)
      generalize hr : parseGo (parts 45 a0) [] 0 = r at hf ⊢
      have hj := texts1 (3 * a0.size + 3 * a1.size + 600) a0 a1 b0 b1 (by omega)
      rcases hf with ⟨f1, f2⟩ | ⟨f1, f2, f3⟩
      · simp only [conv, f1, f2, if_true]
        rw [if_pos (by decide), if_neg (by decide), ht]
        exact hj
      · simp only [conv, f1, if_neg (show ¬ (2 : Int) = 0 from by decide)]
        rw [if_neg (by omega), if_pos (by omega), if_true, if_true, ht]
        exact hj
    · rw [if_neg (by omega), show decide ((a1.size : Int) > 2000) = true from by simp; omega, styluslaw02_CellTexts.j0, if_pos rfl, awake_at _ (by omega)]
      rfl
  · rw [if_pos (by omega), styluslaw02_CellTexts.j0, if_pos rfl, awake_at _ (by omega)]
    rfl
end Go.Proofs.YtnepacpbpbbbhaaDoor.Pure
