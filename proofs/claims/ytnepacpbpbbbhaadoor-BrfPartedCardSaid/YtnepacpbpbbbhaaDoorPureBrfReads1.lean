/- The pure statement of BrfReads, begun: what the program reads, as one plain function. -/
import Derived.Test.YtnepacpbpbbbhaaDoorPureBrfWrites
import Derived.Test.YtnepacpbpbbbhaaDoorPBrf4
namespace Go.Proofs.YtnepacpbpbbbhaaDoor.PureB
open Go.RowKit Go.Proofs.YtnepacpbpbbbhaaDoor.PBrf Go.Proofs.YtnepacpbpbbbhaaDoor.G Go.Proofs.YtnepacpbpbbbhaaDoorW.PrintWords Go.Proofs.YtnepacpbpbbbhaaDoorW.PrintLast

/-- A line: its cells, or where it is spoilt. -/
def lineP (l : ByteArray) : ByteArray × Int × Int :=
  if 0 ≤ (eachGo fromF l.data.toList [] 0).2 then (⟨#[]⟩, (eachGo fromF l.data.toList [] 0).2, 2)
  else if (trimF 32 l).size < l.size then (⟨#[]⟩, ((trimF 32 l).size : Int), 2) else (strOfNums (eachGo fromF l.data.toList [] 0).1, 0, 0)
/-- How far the line goes that begins at a place. -/
def lineLen (s : ByteArray) (a : Nat) : Nat := if Lib.indexAny (s.data.toList.drop a) [10, 12] < 0 then s.size - a else (Lib.indexAny (s.data.toList.drop a) [10, 12]).toNat
/-- The pages, and where the text is spoilt (none: -1). -/
def rd : Nat → ByteArray → List (List ByteArray) → List ByteArray → Nat → List (List ByteArray) × Int
  | 0, _, _, _, _ => ([], -1)
  | fuel + 1, s, pages, page, a =>
    if h : a < s.size then
      if s[a] = 12 then rd fuel s (pages ++ [page]) [] (a + 1)
      else if (lineP (s.extract a (a + lineLen s a))).2.2 ≠ 0 then ([], (a : Int) + (lineP (s.extract a (a + lineLen s a))).2.1)
      else if a + lineLen s a = s.size ∨ bt s ((a + lineLen s a : Nat) : Int) = 12 then ([], ((a + lineLen s a : Nat) : Int))
      else rd fuel s pages (page ++ [(lineP (s.extract a (a + lineLen s a))).1]) (a + lineLen s a + 1)
    else if page.isEmpty = true then (pages, -1) else ([], (s.size : Int))
def outP (r : List (List ByteArray) × Int) : List (List ByteArray) × Int × Int := if r.2 < 0 then (r.1, 0, 0) else ([], r.2, 2)

theorem each_place (f : Int → Int × Bool) : ∀ (l : List UInt8) (acc : List Int) (i : Int), 0 ≤ i → (eachGo f l acc i).2 = -1 ∨ (i ≤ (eachGo f l acc i).2 ∧ (eachGo f l acc i).2 < i + l.length)
  | [], acc, i, _ => .inl rfl
  | b :: l, acc, i, hi => by
    rw [eachGo]
    by_cases h : (f b.toNat).2 = true
    · rw [if_pos h]
      rcases each_place f l (acc ++ [(f b.toNat).1]) (i + 1) (by omega) with h1 | h1
      · exact .inl h1
      · refine .inr ⟨by omega, ?_⟩
        simp only [List.length_cons]
        omega
    · rw [if_neg h]
      refine .inr ⟨Int.le_refl _, ?_⟩
      simp only [List.length_cons]
      omega
theorem line_at (l : ByteArray) (a : Nat) (hl : l.size ≤ 1000000) (ha : a ≤ 1000000) : brf_line.f l (a : Int) = some ((lineP l).1, if (lineP l).2.2 = 0 then 0 else (a : Int) + (lineP l).2.1, (lineP l).2.2) := by
  have hp := each_place fromF l.data.toList [] 0 (by omega)
  rw [len_size] at hp
  have ht := trim_len 32 l
  unfold brf_line.f lineP
  rw [cell_Cells.f, if_pos (by omega), Option.bind_some]
  by_cases h : 0 ≤ (eachGo fromF l.data.toList [] 0).2
  · rw [if_pos h, if_pos h]
    simp only
    rw [if_neg (by decide), if_neg (by decide), wrap_of (by omega) (by omega)]
  · rw [if_neg h, if_neg h]
    simp only [↓reduceIte]
    rw [strings_TrimRight.f, if_pos ⟨rfl, by omega⟩, Option.bind_some]
    by_cases h2 : (trimF 32 l).size < l.size
    · rw [if_pos (by omega), if_pos h2]
      simp only
      rw [if_neg (by decide), wrap_of (by omega) (by omega)]
    · rw [if_neg (by omega), if_neg h2]
      simp only [↓reduceIte]
end Go.Proofs.YtnepacpbpbbbhaaDoor.PureB
