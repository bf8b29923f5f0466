import Derived.Test.YtbpbniemjjhecaaGreatZGChunk4
import Derived.Test.YtbpbniemjjhecaaGreatZGSteps2
section
namespace Go.Proofs.YtbpbniemjjhecaaGreat.G
set_option linter.unusedVariables false
set_option linter.unusedSimpArgs false
open Go.RowKit Go.Maps Go.Proofs.YtbpbniemjjhecaaGreat.GM Go.Proofs.YtbpbniemjjhecaaGreat.GT Go.Proofs.YtbpbniemjjhecaaGreat.PChk Go.Proofs.YtbpbniemjjhecaaGreat.PureC Go.Proofs.YtbpbniemjjhecaaGreatW.PrintWords Go.Proofs.YtbpbniemjjhecaaGreatW.PrintLast Go.Proofs.YtbpbniemjjhecaaGreatW.PrintMore
set_option maxHeartbeats 1600000 in
set_option maxRecDepth 100000 in
theorem begin_walk (t : Tr) (l : List Rl) (w : World) (hT : Tr.Is w t) (ht : t.x = some (some l)) (hl : l ≠ []) :
  Calls Tryz.prog 48 #[t.v] w fun e w' => ∃ g, e = .returned (.pointer (some ⟨g, 0, none⟩)) ∧ WRx (fun _ => False) w w' g t l [] := by
 have hu := Tryz.underlying92
 obtain ⟨p, hp⟩ : ∃ p, t.v = .pointer p := by
  have h := hT
  unfold Tr.Is at h
  rw [ht] at h
  obtain ⟨_, m, A, c, e, _⟩ := h
  exact ⟨_, e⟩
 have HP := Lib.hid hp
 have HT := Lib.hid hT
 have HL := Lib.hid hl
 have hru := trie_Trie_Rules.calls t l w hT (by unfold trie_Trie_Rules.f; rw [ht]; rfl)
 rw [hp] at hru ⊢
 clear hp hT hl ht
 go_enter Tryz.func48, Tryz.ntmps48
 go_wp2_with fail
 go_at_call 59
 refine hru.mono ?_
 rintro e w1 ⟨u, rfl, hu1, b1⟩
 obtain ⟨A, c, rfl, hc, hC⟩ := Kd.R_reads hu1
 have HX := Lib.hid (And.intro hc (And.intro hC b1))
 clear hu1 hc hC b1 hru
 go_wp2
 go_ret
 refine ⟨w1.heap.size, rfl, A, c, .slice none 0 0, ?_⟩
 have hb2 := bAl (Below.refl w1.heap.size w1) (.cells #[.pointer p, .slice A l.length c, .slice none 0 0] 92)
 exact ⟨by rw [HP.out]; simpa using heap_alloc_new w1 _, Kd.C_below HX.out.2.1 hb2, HX.out.1, fun ad e_ => by have h_ := rules_lt HX.out.2.1 HL.out ad e_; omega, Kd.R_nil _ _ _ _ _, HX.out.2.2.size, HT.out, bSp HX.out.2.2 hb2⟩
end Go.Proofs.YtbpbniemjjhecaaGreat.G
end
section
namespace Go.Proofs.YtbpbniemjjhecaaGreat.G
set_option linter.unusedVariables false
set_option linter.unusedSimpArgs false
open Go.RowKit Go.Maps Go.Proofs.YtbpbniemjjhecaaGreat.GM Go.Proofs.YtbpbniemjjhecaaGreat.GT Go.Proofs.YtbpbniemjjhecaaGreat.PChk Go.Proofs.YtbpbniemjjhecaaGreat.PureC Go.Proofs.YtbpbniemjjhecaaGreatW.PrintWords Go.Proofs.YtbpbniemjjhecaaGreatW.PrintLast Go.Proofs.YtbpbniemjjhecaaGreatW.PrintMore
abbrev Tk := S42
def letB (x : Tk) : Bool := x.f0 == 1 && (classN x.f1 == 1 || classN x.f1 == 2)
def digB (x : Tk) : Bool := x.f0 == 1 && classN x.f1 == 3
def okTk (x : Tk) : Prop := 0 ≤ x.f1 ∧ x.f1 < 256
theorem letter_256 : ∀ n : Fin 256, chars_Letter.f (n.val : Int) = some (classN (n.val : Int) == 1 || classN (n.val : Int) == 2) := by decide +kernel
theorem letter_f (x : Tk) (h : okTk x) : chunk_letter.f x.f0 x.f1 x.f2 = some (letB x) := by
 unfold chunk_letter.f letB
 obtain ⟨n, hn⟩ : ∃ n : Nat, x.f1 = (n : Int) := ⟨x.f1.toNat, by have := h.1; omega⟩
 have h2 := letter_256 ⟨n, by have := h.2; omega⟩
 simp only at h2
 rw [hn, h2]
 by_cases h1 : x.f0 = 1
 ·
  rw [if_pos h1, h1]; rfl
 ·
  rw [if_neg h1, beq_eq_false_iff_ne.2 h1]; rfl
theorem class_is (c : Int) (h0 : 0 ≤ c) (h1 : c < 256) : chars_Class.f c = some (classN c) := by
 obtain ⟨n, rfl⟩ : ∃ n : Nat, c = (n : Int) := ⟨c.toNat, by omega⟩
 exact (class_256 ⟨n, by omega⟩).2
theorem digit_f (x : Tk) (h : okTk x) : chunk_digit.f x.f0 x.f1 x.f2 = some (digB x) := by
 unfold chunk_digit.f digB
 rw [class_is x.f1 h.1 h.2]
 by_cases h1 : x.f0 = 1
 ·
  rw [if_pos h1, h1]; rfl
 ·
  rw [if_neg h1, beq_eq_false_iff_ne.2 h1]; rfl
def oneS (c : Int) : ByteArray := strOfNums [c]
def markF (x : Tk) : ByteArray := if x.f1 = 101 ∨ x.f1 = 115 ∨ x.f1 = 110 then (if x.f0 = 2 then strOfNums [x.f1, 43] else if x.f0 = 3 then strOfNums [x.f1, 45] else ⟨#[]⟩) else ⟨#[]⟩
theorem mark_f (x : Tk) (k : Nat) (hk : 1 ≤ k) : chunk_mark.f k x.f0 x.f1 x.f2 = some (markF x) := by
 obtain ⟨k, rfl⟩ : ∃ m, k = m + 1 := ⟨k - 1, by omega⟩
 have hj : chunk_mark.j0 (k + 1) false x.f0 x.f1 x.f2 = some (if x.f0 = 2 then strOfNums [x.f1, 43] else if x.f0 = 3 then strOfNums [x.f1, 45] else ⟨#[]⟩) := by
  rw [chunk_mark.j0, if_neg (by decide)]
  split
  ·
   rfl
  ·
   split <;> rfl
 unfold chunk_mark.f markF
 by_cases h1 : x.f1 = 101
 ·
  rw [if_pos h1, if_pos (Or.inl h1)]; exact hj
 ·
  rw [if_neg h1]
  by_cases h2 : x.f1 = 115
  ·
   rw [if_pos h2, if_pos (Or.inr (Or.inl h2))]; exact hj
  ·
   rw [if_neg h2]
   by_cases h3 : x.f1 = 110
   ·
    rw [if_pos (Or.inr (Or.inr h3)), h3, show ((110 : Int) != 110) = false from by decide]
    rw [h3] at hj
    exact hj
   ·
    rw [if_neg (by omega), show (x.f1 != 110) = true from bne_iff_ne.2 h3, chunk_mark.j0, if_pos rfl]
theorem text_go (l : List Tk) (hl : l.length ≤ 100000) : ∀ (n k i : Nat), i + n = l.length → n + 1 ≤ k → chunk_text.l0 k ((l.take i).map (·.f1)) l (l.length : Int) (i : Int) = some (strOfNums (l.map (·.f1)))
 | 0, k, i, hi, hk => by
  obtain ⟨k, rfl⟩ : ∃ m, k = m + 1 := ⟨k - 1, by omega⟩
  rw [chunk_text.l0, if_neg (by omega), List.take_of_length_le (by omega)]
 | n + 1, k, i, hi, hk => by
  obtain ⟨k, rfl⟩ : ∃ m, k = m + 1 := ⟨k - 1, by omega⟩
  have hlt : i < l.length := by omega
  have he : (l.take i).map (·.f1) ++ [(rd_T42 l (i : Int)).f1] = (l.take (i + 1)).map (·.f1) := by
   rw [List.take_add_one, List.getElem?_eq_getElem hlt, show rd_T42 l (i : Int) = l[i] from by simp [rd_T42, hlt]]
   rw [List.map_append]; rfl
  rw [chunk_text.l0, if_pos (by omega), if_pos (by omega), if_pos (by omega), if_pos (by rw [List.length_map, List.length_take]; omega), he, show wrap64 ((i : Int) + 1) = ((i + 1 : Nat) : Int) from by unfold wrap64; omega]
  exact text_go l hl n k (i + 1) (by omega) (by omega)
theorem text_f (l : List Tk) (hl : l.length ≤ 100000) (k : Nat) (hk : l.length + 1 ≤ k) : chunk_text.f k l = some (strOfNums (l.map (·.f1))) := by
 unfold chunk_text.f
 exact text_go l hl l.length k 0 (by omega) hk
def lets (l : List Tk) : Nat := (l.takeWhile letB).length
def behB (l : List Tk) (i : Nat) : Bool := decide (0 < i) && ((l[i - 1]?).map digB).getD false
def letName : ByteArray := ⟨#[108, 101, 116]⟩
def numName : ByteArray := ⟨#[110, 117, 109]⟩
def ruleI (l : List Rl) (what : Int) (s : ByteArray) : Int := (findO (some (some l)) what s).getD 0
def runT (toks : List Tk) (i n : Nat) : ByteArray := strOfNums (((toks.drop i).take n).map (·.f1))
def spellGo (l : List Rl) (toks : List Tk) : Nat → Nat → List Pc
 | 0, _ => []
 | k + 1, i => match toks[i]? with
  | none => []
  | some x => if letB x = true then
    (if behB toks i = true then [(⟨ruleI l 8 letName, (i : Int), 0⟩ : Pc)] else []) ++ (runGo l (runT toks i (lets (toks.drop i))) (i : Int) ((runT toks i (lets (toks.drop i))).size + 1) 0 ++ spellGo l toks k (i + lets (toks.drop i)))
   else if digB x = true then
    (if behB toks i = true then [] else [(⟨ruleI l 8 numName, (i : Int), 0⟩ : Pc)]) ++ ((⟨ruleI l 7 (oneS x.f1), (i : Int), 1⟩ : Pc) :: spellGo l toks k (i + 1))
   else if x.f0 = 1 then (⟨ruleI l 6 (oneS x.f1), (i : Int), 1⟩ : Pc) :: spellGo l toks k (i + 1)
   else (⟨ruleI l 8 (markF x), (i : Int), 1⟩ : Pc) :: spellGo l toks k (i + 1)
end Go.Proofs.YtbpbniemjjhecaaGreat.G
end
