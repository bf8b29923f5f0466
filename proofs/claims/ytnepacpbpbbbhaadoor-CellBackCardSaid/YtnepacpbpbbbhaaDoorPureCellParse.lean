/- Plain laws about the texts of cells: Parse and the document's answer. -/
import Derived.Test.YtnepacpbpbbbhaaDoorPureCellApart
import Derived.Test.YtnepacpbpbbbhaaDoorPCell4
namespace Go.Proofs.YtnepacpbpbbbhaaDoor.Pure
open Go.RowKit Go.Proofs.YtnepacpbpbbbhaaDoor.PCell Go.Proofs.YtnepacpbpbbbhaaDoor.G Go.Proofs.YtnepacpbpbbbhaaDoorW.PrintWords Go.Proofs.YtnepacpbpbbbhaaDoorW.PrintLast

theorem splitOn_no (b : UInt8) : ∀ p : List UInt8, (∀ x ∈ p, x ≠ b) → splitOn b p = [p]
  | [], _ => rfl
  | c :: l, h => by
    have hc : ¬ ((c == b) = true) := by simpa using h c List.mem_cons_self
    rw [splitOn, if_neg hc, splitOn_no b l (fun x hx => h x (List.mem_cons_of_mem _ hx))]
    rfl
theorem splitOn_cut (b : UInt8) : ∀ p l : List UInt8, (∀ x ∈ p, x ≠ b) → splitOn b (p ++ b :: l) = p :: splitOn b l
  | [], l, _ => by rw [List.nil_append, splitOn, if_pos (by simp)]
  | c :: p, l, h => by
    have hc : ¬ ((c == b) = true) := by simpa using h c List.mem_cons_self
    rw [List.cons_append, splitOn, if_neg hc, splitOn_cut b p l (fun x hx => h x (List.mem_cons_of_mem _ hx))]
    rfl
theorem text_eq {x y : ByteArray} (h : x.data.toList = y.data.toList) : x = y := ByteArray.ext (Array.toList_inj.1 h)
theorem mk_data (l : List UInt8) : (⟨l.toArray⟩ : ByteArray).data.toList = l := rfl
theorem parts_last (s : ByteArray) (a : Nat) (h : ∀ x ∈ s.data.toList.drop a, x ≠ 45) : parts 45 (s.extract a s.size) = [s.extract a s.size] := by
  unfold parts
  rw [Lib.extract_to_end, splitOn_no 45 _ h]
  simp only [List.map_cons, List.map_nil]
  congr 1
  apply text_eq
  rw [mk_data, Lib.extract_to_end]
theorem parts_next (s : ByteArray) (a i : Nat) (ha : a ≤ i) (hi : i < s.size) (h : ∀ x ∈ (s.data.toList.drop a).take (i - a), x ≠ 45) (h45 : s[i] = 45) :
    parts 45 (s.extract a s.size) = s.extract a i :: parts 45 (s.extract (i + 1) s.size) := by
  have e : s.data.toList.drop a = (s.data.toList.drop a).take (i - a) ++ 45 :: s.data.toList.drop (i + 1) := by
    have h1 := List.take_append_drop (i - a) (s.data.toList.drop a)
    rw [List.drop_drop, show a + (i - a) = i from by omega, drop_at s i hi, h45] at h1
    exact h1.symm
  unfold parts
  rw [Lib.extract_to_end, Lib.extract_to_end, e, splitOn_cut 45 _ _ h, List.map_cons]
  congr 1
  apply text_eq
  rw [mk_data, Lib.extract_data]
/-- The document tells a place, or that there is none. -/
def conv (r : ByteArray × Int × Int) : ByteArray × Int := (r.1, if r.2.2 = 0 then -1 else r.2.1)

theorem parse_step (s : ByteArray) (hs : s.size ≤ 2000) (k a i : Nat) (acc : List Int) (ha : a ≤ i) (hi : i ≤ s.size) (hl : acc.length ≤ 4) (hk : s.size + 20 ≤ k) :
    stylusref02_Parse.j1 (k + 1) s acc (a : Int) (i : Int) false =
      if (ofGo (s.extract a i).data.toList 0 48).2 = false ∨ acc.length = 4 then some (⟨#[]⟩, (a : Int))
      else stylusref02_Parse.l0 k s (acc ++ [(ofGo (s.extract a i).data.toList 0 48).1]) ((i + 1 : Nat) : Int) ((i + 1 : Nat) : Int) := by
  have hsz : (s.extract a i).size ≤ 2000 := by simp; omega
  have hsz2 : (s.extract a i).size ≤ s.size := by simp; omega
  rw [stylusref02_Parse.j1, if_neg (by decide), if_pos (by omega), if_pos (by omega), if_pos (by omega)]
  rw [show ((a : Int)).toNat = a from rfl, show ((i : Int)).toNat = i from rfl, of_same (s.extract a i) (by omega) k (by omega), Option.bind_some]
  by_cases h1 : (ofGo (s.extract a i).data.toList 0 48).2 = true
  · rw [if_pos h1]
    by_cases h4 : acc.length = 4
    · rw [if_pos (by omega), if_pos (Or.inr h4)]
    · rw [if_neg (by omega), if_pos (by omega), if_neg (fun h => h.elim (fun e => by rw [h1] at e; cases e) h4), wrap_of (by omega) (by omega)]
      rfl
  · rw [if_neg h1, if_pos (Or.inl (by simpa using h1))]

theorem parse_go (s : ByteArray) (hs : s.size ≤ 2000) (fuel : Nat) : ∀ (k i a : Nat) (acc : List Int), i + fuel = s.size → a ≤ i → (∀ x ∈ (s.data.toList.drop a).take (i - a), x ≠ 45) → acc.length ≤ 4 → s.size + 2 * fuel + 30 ≤ k →
    stylusref02_Parse.l0 k s acc (a : Int) (i : Int) = some (conv (parseGo (parts 45 (s.extract a s.size)) acc (a : Int))) := by
  induction fuel with
  | zero =>
    intro k i a acc hi ha hno hl hk
    obtain ⟨k, rfl⟩ : ∃ m, k = m + 3 := ⟨k - 3, by omega⟩
    obtain rfl : i = s.size := by omega
    rw [stylusref02_Parse.l0, if_pos (by omega), if_neg (by omega), parse_step s hs (k + 1) a s.size acc ha (by omega) hl (by omega)]
    rw [parts_last s a (by rw [List.take_of_length_le (by simp)] at hno; exact hno), parseGo]
    by_cases h : (ofGo (s.extract a s.size).data.toList 0 48).2 = false ∨ acc.length = 4
    · rw [if_pos h, if_pos h]
      rfl
    · rw [if_neg h, if_neg h, stylusref02_Parse.l0, if_neg (by omega), parseGo]
      rfl
  | succ fuel ih =>
    intro k i a acc hi ha hno hl hk
    obtain ⟨k, rfl⟩ : ∃ m, k = m + 2 := ⟨k - 2, by omega⟩
    have hlt : i < s.size := by omega
    rw [stylusref02_Parse.l0, if_pos (by omega), if_pos (by omega), if_pos (by omega), bt_of s i hlt]
    by_cases h45 : s[i] = 45
    · have hb : (((s[i].toNat : Int)) != 45) = false := by rw [h45]; rfl
      rw [hb, parse_step s hs k a i acc ha (by omega) hl (by omega), parts_next s a i ha hlt hno h45, parseGo]
      by_cases h : (ofGo (s.extract a i).data.toList 0 48).2 = false ∨ acc.length = 4
      · rw [if_pos h, if_pos h]
        rfl
      · rw [if_neg h, if_neg h]
        have h4 : acc.length ≠ 4 := fun e => h (Or.inr e)
        rw [ih k (i + 1) (i + 1) _ (by omega) (by omega) (by simp) (by simp; omega) (by omega)]
        have hz : (s.extract a i).size = i - a := by simp; omega
        rw [hz, wrap_of (x := ((i - a : Nat) : Int) + 1) (by omega) (by omega), wrap_of (x := (a : Int) + (((i - a : Nat) : Int) + 1)) (by omega) (by omega), show (a : Int) + (((i - a : Nat) : Int) + 1) = ((i + 1 : Nat) : Int) from by omega]
    · have hne : s[i].toNat ≠ 45 := fun e => h45 (UInt8.toNat_inj.1 e)
      have hb : (((s[i].toNat : Int)) != 45) = true := by rw [bne_iff_ne]; omega
      rw [hb, stylusref02_Parse.j1, if_pos rfl, wrap_of (x := (i : Int) + 1) (by omega) (by omega)]
      refine ih k (i + 1) a acc (by omega) (by omega) ?_ hl (by omega)
      intro x hx
      rw [show i + 1 - a = (i - a) + 1 from by omega, List.take_add_one, List.mem_append] at hx
      rcases hx with hx | hx
      · exact hno x hx
      · rw [List.getElem?_drop, show a + (i - a) = i from by omega] at hx
        have e : s.data.toList[i]? = some s[i] := by rw [List.getElem?_eq_getElem (by simpa using hlt)]; rfl
        rw [e] at hx
        simp at hx
        rw [hx]
        exact h45
theorem parse_same (s : ByteArray) (hs : s.size ≤ 2000) (k : Nat) (hk : 3 * s.size + 30 ≤ k) : stylusref02_Parse.f k s = some (conv (parseGo (parts 45 s) [] 0)) := by
  have h := parse_go s hs s.size k 0 0 [] (by omega) (by omega) (by simp) (by simp) (by omega)
  have e : s.extract 0 s.size = s := by simp
  rw [e] at h
  exact h
theorem parse_at (s : ByteArray) (hs : s.size ≤ 2000) : cell_Parse.f s = some (parseGo (parts 45 s) [] 0) := by
  unfold cell_Parse.f cell_Parse.g
  rw [if_pos (by omega)]
/-- An error is told with its place, and nothing else. -/
theorem parseGo_form : ∀ (ps : List ByteArray) (acc : List Int) (a : Int), 0 ≤ a → (∀ p ∈ ps, p.size ≤ 2000) → a + ps.length * 2001 ≤ 1000000000 → (parseGo ps acc a).2.2 = 0 ∧ (parseGo ps acc a).2.1 = 0 ∨ (parseGo ps acc a).2.2 = 2 ∧ 0 ≤ (parseGo ps acc a).2.1 ∧ (parseGo ps acc a).1 = ⟨#[]⟩
  | [], _, _, _, _, _ => .inl ⟨rfl, rfl⟩
  | p :: ps, acc, a, h0, hp, hb => by
    rw [parseGo]
    by_cases h : (ofGo p.data.toList 0 48).2 = false ∨ acc.length = 4
    · rw [if_pos h]
      exact .inr ⟨rfl, h0, rfl⟩
    · rw [if_neg h]
      have h1 := hp p List.mem_cons_self
      simp only [List.length_cons] at hb
      rw [wrap_of (x := (p.size : Int) + 1) (by omega) (by omega), wrap_of (x := a + ((p.size : Int) + 1)) (by omega) (by omega)]
      exact parseGo_form ps _ _ (by omega) (fun q hq => hp q (List.mem_cons_of_mem _ hq)) (by omega)
end Go.Proofs.YtnepacpbpbbbhaaDoor.Pure
