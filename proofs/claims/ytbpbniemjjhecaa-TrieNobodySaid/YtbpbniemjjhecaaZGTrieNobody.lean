import Derived.Test.YtbpbniemjjhecaaZGTrieAwake
namespace Go.Proofs.Ytbpbniemjjhecaa.G
set_option linter.unusedVariables false
set_option linter.unusedSimpArgs false
open Go.RowKit Go.Maps Go.Proofs.Ytbpbniemjjhecaa.GM Go.Proofs.Ytbpbniemjjhecaa.GT Go.Proofs.Ytbpbniemjjhecaa.PChk Go.Proofs.Ytbpbniemjjhecaa.PureC Go.Proofs.YtbpbniemjjhecaaW.PrintWords Go.Proofs.YtbpbniemjjhecaaW.PrintLast Go.Proofs.YtbpbniemjjhecaaW.PrintMore
theorem nobody {x : Option (Option (List Rl))} (hx : x.join = none) : (∀ s a r, matchO x s a r = none) ∧ (∀ s, wordO x s = none) ∧ (∀ a s, findO x a s = none) ∧ ∀ s, signO x s = ⟨#[]⟩ := by
  have hf : ∀ a s, findO x a s = none := fun a s => by unfold findO; rw [hx]; rfl
  refine ⟨fun s a r => ?_, fun s => ?_, hf, fun s => ?_⟩
  · unfold matchO
    rw [hx]
    split <;> rfl
  · unfold wordO
    rw [hx]
    rfl
  · unfold signO
    rw [hf]
    rfl
set_option maxHeartbeats 6400000 in
set_option maxRecDepth 100000 in
theorem nobody_big (s t : ByteArray) (a r k : Int) (h : s.size > 500 ∨ t.size > 500) (w : World) :
    Calls Try.prog 6 #[.string s, .string t, .int .i64 a, .int .i64 r, .int .i64 k] w fun e w' => e = .returned (.bool true) ∧ Below w.heap.size w w' := by
  by_cases h1 : s.size > 500
  · have h1b : decide ((s.size : Int) > 500) = true := decide_eq_true (by omega)
    have h1c : decide ((500 : Int) < (s.size : Int)) = true := decide_eq_true (by omega)
    clear h
    go_enter Try.func6, Try.ntmps6
    go_wp2_with fail
    go_at_call 10
    refine (trie_awake.calls _).mono ?_
    rintro e w2 ⟨rfl, b2⟩
    go_wp2
    go_ret
    exact ⟨rfl, b2⟩
  · have h2 : t.size > 500 := h.resolve_left h1
    have h1b : decide ((s.size : Int) > 500) = false := decide_eq_false (by omega)
    have h1c : decide ((500 : Int) < (s.size : Int)) = false := decide_eq_false (by omega)
    have h2b : decide ((t.size : Int) > 500) = true := decide_eq_true (by omega)
    have h2c : decide ((500 : Int) < (t.size : Int)) = true := decide_eq_true (by omega)
    clear h h1 h2
    go_enter Try.func6, Try.ntmps6
    go_wp2_with fail
    go_at_call 10
    refine (trie_awake.calls _).mono ?_
    rintro e w2 ⟨rfl, b2⟩
    go_wp2
    go_ret
    exact ⟨rfl, b2⟩
set_option maxHeartbeats 6400000 in
set_option maxRecDepth 100000 in
theorem nobody_in (s t : ByteArray) (a r k : Int) (hs : ¬ s.size > 500) (ht : ¬ t.size > 500) (hk : (Lit.int .i64 k).wf = true) (w : World) :
    Calls Try.prog 6 #[.string s, .string t, .int .i64 a, .int .i64 r, .int .i64 k] w fun e w' => e = .returned (.bool true) ∧ Below w.heap.size w w' := by
  have h1b : decide ((s.size : Int) > 500) = false := decide_eq_false (by omega)
  have h1c : decide ((500 : Int) < (s.size : Int)) = false := decide_eq_false (by omega)
  have h2b : decide ((t.size : Int) > 500) = false := decide_eq_false (by omega)
  have h2c : decide ((500 : Int) < (t.size : Int)) = false := decide_eq_false (by omega)
  have hside : sideOk (k, t) := ⟨hk, by show t.size ≤ maxLen; unfold maxLen; omega⟩
  have HSD := Lib.hid hside
  have HSS := Lib.hid (show s.size ≤ 500 ∧ t.size ≤ 500 from by omega)
  clear hside hk hs ht
  go_enter Try.func6, Try.ntmps6
  go_wp2
  have hB0 : Below w.heap.size w ((w.alloc (.cells #[.slice none 0 0, .map none, .map none, .map none, .map none, .map none, .map none, .map none, .map none, .map none, .map none] 57)).alloc (.cells #[.pointer none, .pointer (some ⟨w.heap.size, 0, none⟩)] 26)) := ((Below.refl _ _).alloc (Nat.le_refl _) _).alloc (by simp) _
  have hO0 := heap_alloc_new (w.alloc (.cells #[.slice none 0 0, .map none, .map none, .map none, .map none, .map none, .map none, .map none, .map none, .map none, .map none] 57)) (.cells #[.pointer none, .pointer (some ⟨w.heap.size, 0, none⟩)] 26)
  rw [World.size_alloc] at hO0
  have hN0 : ((w.alloc (.cells #[.slice none 0 0, .map none, .map none, .map none, .map none, .map none, .map none, .map none, .map none, .map none, .map none] 57)).alloc (.cells #[.pointer none, .pointer (some ⟨w.heap.size, 0, none⟩)] 26)).cell? ⟨w.heap.size, 9, none⟩ = some (.map none) := by simp
  have HB0 := Lib.hid hB0
  have HO0 := Lib.hid hO0
  have HN0 := Lib.hid hN0
  clear hB0 hO0 hN0
  go_loopw [13] (fun i wr => ∃ p : Nat, i = .int .i64 (p : Int) ∧ p ≤ 2 ∧ Hid (Below w.heap.size w wr) ∧ Hid (wr.heap[w.heap.size + 1]? = some (.cells #[.pointer none, .pointer (some ⟨w.heap.size, 0, none⟩)] 26)) ∧ Hid (wr.cell? ⟨w.heap.size, 9, none⟩ = some (.map none))) (fun i _ => 2 - (intOf i).toNat)
  case atStart => exact ⟨0, rfl, by omega, HB0, HO0, HN0⟩
  case round =>
    clear HB0 HO0 HN0
    obtain ⟨p, rfl, hp, HB, HO, HN⟩ := hrel
    by_cases hlt : p < 2
    · obtain ⟨v, x, hv, hTV, hx⟩ : ∃ v x, (#[.pointer none, .pointer (some ⟨w.heap.size, 0, none⟩)] : Array Value)[p]? = some v ∧ TV wr v x ∧ x.join = none := by
        obtain rfl | rfl : p = 0 ∨ p = 1 := by omega
        · exact ⟨.pointer none, none, rfl, rfl, rfl⟩
        · exact ⟨.pointer (some ⟨w.heap.size, 0, none⟩), some none, rfl, ⟨w.heap.size, rfl, HN.out⟩, rfl⟩
      have hO := HO.out
      have cv : wr.cell? ⟨w.heap.size + 1, p, none⟩ = some v := by
        have h : wr.cell? ⟨w.heap.size + 1, p, none⟩ = (#[.pointer none, .pointer (some ⟨w.heap.size, 0, none⟩)] : Array Value)[p]? := by simp [World.cell?, hO]
        rw [h, hv]
      obtain ⟨n1, n2, n3, n4⟩ := nobody hx
      have HT := Lib.hid hTV
      have hmt := trie_Match.calls v x s a r (by have := HSS.out; omega) wr hTV
      rw [n1] at hmt
      simp only [ans, Option.getD_none, Option.isSome_none] at hmt
      have hwd := fun w' hT => trie_Word.calls v x s (by have := HSS.out; omega) w' hT
      rw [n2] at hwd
      simp only [ans, Option.getD_none, Option.isSome_none] at hwd
      have hfd := fun w' hT => trie_Find.calls v x k t HSD.out w' hT
      rw [n3] at hfd
      simp only [ans, Option.getD_none, Option.isSome_none] at hfd
      have hsg := fun w' hT => trie_Sign.calls v x t (by have := HSS.out; omega) w' hT
      rw [n4] at hsg
      have hrl := fun w' hT => trie_Rules.calls v x w' hT
      rw [hx] at hrl
      simp only [Option.getD_none] at hrl
      have hp2 : (p : Int) < 2 := by omega
      have HBS := Lib.hid (World.block_lt_of_cell? wr _ HN.out)
      have HOS := Lib.hid (Array.getElem?_eq_some_iff.1 HO.out).1
      clear hO hv hTV n1 n2 n3 n4 hx
      go_wp2_with fail
      go_at_call 13
      refine hmt.mono ?_
      rintro e w1 ⟨rfl, b1⟩
      have HT1 := Lib.hid (HT.out.below b1)
      have HB1 := Lib.hid (bSp HB.out b1)
      have HO1 := Lib.hid ((b1.block _ HOS.out).trans HO.out)
      have HN1 := Lib.hid ((b1.cell HBS.out).trans HN.out)
      have HBS1 := Lib.hid (Nat.lt_of_lt_of_le HBS.out b1.size)
      have HOS1 := Lib.hid (Nat.lt_of_lt_of_le HOS.out b1.size)
      clear hmt b1 cv
      go_wp2_with (first | (go_at_call 16; refine (hwd _ HT1.out).mono ?_; rintro e w' ⟨rfl, rfl⟩) | (go_at_call 15; refine (hfd _ HT1.out).mono ?_; rintro e w' ⟨rfl, rfl⟩) | (go_at_call 17; refine (hsg _ HT1.out).mono ?_; rintro e w' ⟨rfl, rfl⟩) | (go_at_call 24; refine (hrl _ HT1.out).mono ?_; rintro e w2 ⟨u, rfl, hu, b2⟩; obtain ⟨A, c, rfl, _, _⟩ := Kd.R_reads hu; have HB2 := Lib.hid (bSp HB1.out b2); have HO2 := Lib.hid ((b2.block _ HOS1.out).trans HO1.out); have HN2 := Lib.hid ((b2.cell HBS1.out).trans HN1.out); clear hu b2))
      go_roundw
      case rel => first | exact ⟨p + 1, by go_num, by omega, HB2, HO2, HN2⟩ | ((repeat apply Exists.intro); exact ⟨⟨p + 1, by go_num, by omega, HB2, HO2, HN2⟩, rfl⟩)
      case measure => simp [intOf]; omega
    · have hi0 : ¬ (p : Int) < 2 := by omega
      go_wp2_with fail
      go_at_call 10
      refine (trie_awake.calls _).mono ?_
      rintro e w4 ⟨rfl, b4⟩
      go_wp2
      go_ret
      exact ⟨rfl, bSp HB.out b4⟩
end Go.Proofs.Ytbpbniemjjhecaa.G
namespace Go.Proofs.Ytbpbniemjjhecaa.PChk
open Go.RowKit Go.Proofs.Ytbpbniemjjhecaa.G Go.Proofs.Ytbpbniemjjhecaa.PureC Go.Proofs.YtbpbniemjjhecaaW.PrintWords
def w10_TrieNobody.f (_ : Nat) (_ _ : ByteArray) (_ _ k : Int) : Option Bool := if (Lit.int .i64 k).wf = true then some true else none
theorem w10_TrieNobody.calls (n : Nat) (s t : ByteArray) (a r k : Int) (b : Bool) (w : World) (h : w10_TrieNobody.f n s t a r k = some b) (hT : b = true) :
    Calls Try.prog 6 #[.string s, .string t, .int .i64 a, .int .i64 r, .int .i64 k] w fun e w' => e = .returned (.bool b) ∧ Below w.heap.size w w' := by
  subst hT
  unfold w10_TrieNobody.f at h
  by_cases hk : (Lit.int .i64 k).wf = true
  · by_cases h1 : s.size > 500
    · exact nobody_big s t a r k (Or.inl h1) w
    · by_cases h2 : t.size > 500
      · exact nobody_big s t a r k (Or.inr h2) w
      · exact nobody_in s t a r k h1 h2 hk w
  · rw [if_neg hk] at h
    cases h
end Go.Proofs.Ytbpbniemjjhecaa.PChk
namespace Go.Proofs.Ytbpbniemjjhecaa.PureC
theorem trieNobody_true (s t : ByteArray) (a r k : Int) (_ : s.size ≤ 140737488351232) (_ : t.size ≤ 140737488351232) (_ : (Go.Lit.int .i64 a).wf = true) (_ : (Go.Lit.int .i64 r).wf = true) (h : (Go.Lit.int .i64 k).wf = true) : ∃ n, Go.Proofs.Ytbpbniemjjhecaa.PChk.w10_TrieNobody.f n s t a r k = some true := ⟨0, if_pos h⟩
end Go.Proofs.Ytbpbniemjjhecaa.PureC
