import Derived.Test.YtbpbniemjjhecaaZGTrieAwake
import Derived.Test.YtbpbniemjjhecaaZPureTrie3
namespace Go.Proofs.Ytbpbniemjjhecaa.G
set_option linter.unusedVariables false
set_option linter.unusedSimpArgs false
open Go.RowKit Go.Maps Go.Proofs.Ytbpbniemjjhecaa.GM Go.Proofs.Ytbpbniemjjhecaa.GT Go.Proofs.Ytbpbniemjjhecaa.PChk Go.Proofs.Ytbpbniemjjhecaa.PureC Go.Proofs.YtbpbniemjjhecaaW.PrintWords Go.Proofs.YtbpbniemjjhecaaW.PrintLast Go.Proofs.YtbpbniemjjhecaaW.PrintMore
set_option maxHeartbeats 6400000 in
set_option maxRecDepth 100000 in
theorem found_long (A0 : Option Addr) (c0 : Nat) (l0 : List Rl) (w : World) (hr0 : Kd.C k33 w A0 l0.length l0) (hc0 : l0.length ≤ c0) (hL : w10_long.f 500 l0 = some true) :
    Calls Try.prog 4 #[.slice A0 l0.length c0] w fun e w' => e = .returned (.bool true) ∧ Below w.heap.size w w' := by
  have h1 := w10_long.calls 500 A0 c0 l0 true w hr0 hc0 hL
  clear hL hr0
  go_enter Try.func4, Try.ntmps4
  go_wp2_with fail
  go_at_call 9
  refine h1.mono ?_
  rintro e w1 ⟨rfl, b1⟩
  go_wp2_with fail
  go_at_call 10
  refine (trie_awake.calls _).mono ?_
  rintro e w2 ⟨rfl, b2⟩
  go_wp2
  go_ret
  exact ⟨rfl, bSp b1.below b2⟩
set_option maxHeartbeats 6400000 in
set_option maxRecDepth 100000 in
theorem found_none (A0 : Option Addr) (c0 : Nat) (l0 : List Rl) (n e0 : Int) (w : World) (hr0 : Kd.C k33 w A0 l0.length l0) (hc0 : l0.length ≤ c0) (hL : w10_long.f 500 l0 = some false) (ht : check_Table.f l0 = some (n, e0)) (hn : trie_New.f l0 = some (none, n, e0)) (he : e0 ≠ 0) :
    Calls Try.prog 4 #[.slice A0 l0.length c0] w fun e w' => e = .returned (.bool true) ∧ Below w.heap.size w w' := by
  have h1 := w10_long.calls 500 A0 c0 l0 false w hr0 hc0 hL
  have HR := Lib.hid hr0
  have heb : (e0 != 0) = true := bne_iff_ne.mpr he
  have hee : (e0 != e0) = false := by simp
  have hnn : (n != n) = false := by simp
  clear hL hr0 he
  go_enter Try.func4, Try.ntmps4
  go_wp2_with fail
  go_at_call 9
  refine h1.mono ?_
  rintro e w1 ⟨rfl, b1⟩
  have HB1 := Lib.hid b1.below
  clear b1 h1
  go_wp2_with fail
  go_at_call 11
  refine (trie_New.calls A0 c0 l0 none n e0 w1 (Kd.C_below HR.out HB1.out) hc0 hn).mono ?_
  rintro e w2 ⟨t, rfl, rfl, b2⟩
  have HB2 := Lib.hid (bSp HB1.out b2)
  clear b2
  go_wp2_with fail
  go_at_call 14
  refine (check_Table.calls A0 c0 l0 n e0 w2 (Kd.C_below HR.out HB2.out) hc0 ht).mono ?_
  rintro e w3 ⟨rfl, b3⟩
  have HB3 := Lib.hid (bSp HB2.out b3)
  have hnl := ptr_nil w3
  clear b3
  go_wp2_with fail
  go_at_call 10
  refine (trie_awake.calls _).mono ?_
  rintro e w4 ⟨rfl, b4⟩
  go_wp2
  go_ret
  exact ⟨rfl, bSp HB3.out b4⟩
set_option maxHeartbeats 6400000 in
set_option maxRecDepth 100000 in
theorem found_some (A0 : Option Addr) (c0 : Nat) (l0 : List Rl) (w : World) (hr0 : Kd.C k33 w A0 l0.length l0) (hc0 : l0.length ≤ c0) (hl : l0.length ≤ 450) (hs : ∀ x ∈ l0, Short x) (hL : w10_long.f 500 l0 = some false) (ht : check_Table.f l0 = some (0, 0)) (hn : trie_New.f l0 = some (some (some l0), 0, 0)) (hA : Apart l0) :
    Calls Try.prog 4 #[.slice A0 l0.length c0] w fun e w' => e = .returned (.bool true) ∧ Below w.heap.size w w' := by
  have h1 := w10_long.calls 500 A0 c0 l0 false w hr0 hc0 hL
  have HR := Lib.hid hr0
  have HS := Lib.hid hs
  clear hL hr0 hs
  go_enter Try.func4, Try.ntmps4
  go_wp2_with fail
  go_at_call 9
  refine h1.mono ?_
  rintro e w1 ⟨rfl, b1⟩
  have HB1 := Lib.hid b1.below
  clear b1 h1
  go_wp2_with fail
  go_at_call 11
  refine (trie_New.calls A0 c0 l0 (some (some l0)) 0 0 w1 (Kd.C_below HR.out HB1.out) hc0 hn).mono ?_
  rintro e w2 ⟨t, rfl, ht2, b2⟩
  have HB2 := Lib.hid (bSp HB1.out b2)
  clear b2
  obtain ⟨hf, m, A2, c2, rfl, hTS⟩ := ht2
  have ht2 : TV w2 (.pointer (some ⟨m + 2, 0, none⟩)) (some (some l0)) := ⟨hf, m, A2, c2, rfl, hTS⟩
  have HT2 := Lib.hid ht2
  clear ht2 hf hTS
  go_wp2_with fail
  go_at_call 14
  refine (check_Table.calls A0 c0 l0 0 0 w2 (Kd.C_below HR.out HB2.out) hc0 ht).mono ?_
  rintro e w3 ⟨rfl, b3⟩
  have HB3 := Lib.hid (bSp HB2.out b3)
  have HT3 := Lib.hid (HT2.out.below b3)
  have hnl := ptr_not_nil w3 ⟨m + 2, 0, none⟩
  clear b3
  go_wp2
  go_loopw [8] (fun i wr => ∃ p : Nat, i = .int .i64 (p : Int) ∧ p ≤ l0.length ∧ Hid (TV wr (.pointer (some ⟨m + 2, 0, none⟩)) (some (some l0))) ∧ Hid (Below w.heap.size w wr)) (fun i _ => l0.length - (intOf i).toNat)
  case atStart => exact ⟨0, rfl, Nat.zero_le _, HT3, HB3⟩
  case round =>
    clear hnl HT3 HB3 HT2 HB2
    obtain ⟨p, rfl, hp, HT, HB⟩ := hrel
    by_cases hlt : p < l0.length
    · obtain ⟨x, hx⟩ : ∃ x, l0[p]? = some x := ⟨l0[p], List.getElem?_eq_getElem hlt⟩
      have hxm : x ∈ l0 := List.mem_of_getElem? hx
      have hrd : rd_T33 l0 (p : Int) = x := by simp [rd_T33, hx]
      obtain ⟨ad, e, g0, g1, g2, g3, g4⟩ := at_T33 HR.out (p : Int) (by omega) (by omega)
      rw [hrd] at g0 g1 g2 g3 g4
      simp only [Int.toNat_natCast] at g0 g1 g2 g3 g4
      cases e
      have hbb := HB.out
      replace g0 := (hbb.cell (World.block_lt_of_cell? w _ g0)).trans g0
      replace g1 := (hbb.cell (World.block_lt_of_cell? w _ g1)).trans g1
      replace g2 := (hbb.cell (World.block_lt_of_cell? w _ g2)).trans g2
      clear g3 g4
      obtain ⟨x0, x8, x1, x2⟩ := alone_fit x (hA.1 x hxm) (HS.out x hxm)
      have hside : sideOk (x.f0, x.f1) := ⟨WalkArith.wf_i64 (by omega), by show x.f1.size ≤ maxLen; unfold maxLen; omega⟩
      have hfd := trie_Find.calls (.pointer (some ⟨m + 2, 0, none⟩)) (some (some l0)) x.f0 x.f1 hside
      rw [found_left hA p x hx] at hfd
      simp only [ans, Option.getD_some, Option.isSome_some] at hfd
      have hwd := trie_Word.calls (.pointer (some ⟨m + 2, 0, none⟩)) (some (some l0)) x.f2 (by omega)
      have hsg := trie_Sign.calls (.pointer (some ⟨m + 2, 0, none⟩)) (some (some l0)) x.f1 (by omega)
      have hp1 : (p : Int) ≤ (c0 : Int) := by omega
      have hp2 : (p : Int) < (l0.length : Int) := by omega
      have hp3 : p ≤ c0 := by omega
      have hpp : ((p : Int) != (p : Int)) = false := by simp
      have hcs : (x.f0 = 5 ∧ (x.f0 == 5) = true ∧ (x.f0 == 8) = false) ∨ (x.f0 = 8 ∧ (x.f0 == 5) = false ∧ (x.f0 == 8) = true) ∨ ((x.f0 == 5) = false ∧ (x.f0 == 8) = false) := by
        by_cases h5 : x.f0 = 5
        · exact Or.inl ⟨h5, beq_iff_eq.mpr h5, beq_eq_false_iff_ne.mpr (by omega)⟩
        · by_cases h8 : x.f0 = 8
          · exact Or.inr (Or.inl ⟨h8, beq_eq_false_iff_ne.mpr h5, beq_iff_eq.mpr h8⟩)
          · exact Or.inr (Or.inr ⟨beq_eq_false_iff_ne.mpr h5, beq_eq_false_iff_ne.mpr h8⟩)
      have hw5 := fun h5 => found_word hA p x hx h5
      have hs8 := fun h8 => found_sign hA p x hx h8
      have hp4 : p + 1 ≤ l0.length := by omega
      clear hbb hrd hxm hx hside x0 x8 x1 x2
      obtain ⟨h5, h5b, h8b⟩ | ⟨h8, h5b, h8b⟩ | ⟨h5b, h8b⟩ := hcs
      · rw [hw5 h5] at hwd
        simp only [ans, Option.getD_some, Option.isSome_some] at hwd
        clear h5 hw5 hs8
        go_wp2
        go_quiet (first | (go_at_call 15; exact Calls.quiet_of_same (hfd _ (HT.out.below (pbD (Below.refl _ _) _)))))
        go_wp2_with fail
        go_at_call 16
        refine (hwd _ (HT.out.below (pbD (Below.refl _ _) _))).mono ?_
        rintro e w' ⟨rfl, rfl⟩
        go_wp2
        go_quiet (fail)
        go_wp2
        go_roundw
        case rel => first | exact ⟨p + 1, by go_num, hp4, Lib.hid (HT.out.below (pbD (Below.refl _ _) _)), Lib.hid (pbD HB.out _)⟩ | ((repeat apply Exists.intro); exact ⟨⟨p + 1, by go_num, hp4, Lib.hid (HT.out.below (pbD (Below.refl _ _) _)), Lib.hid (pbD HB.out _)⟩, rfl⟩)
        case measure => simp [intOf]; omega
      · rw [hs8 h8] at hsg
        obtain ⟨o, ho⟩ : ∃ o, wordO (some (some l0)) x.f2 = o := ⟨_, rfl⟩
        rw [ho] at hwd
        simp only [ans] at hwd
        clear h8 hw5 hs8 ho
        go_wp2
        go_quiet (first | (go_at_call 15; exact Calls.quiet_of_same (hfd _ (HT.out.below (pbD (Below.refl _ _) _)))))
        go_wp2_with fail
        go_at_call 16
        refine (hwd _ (HT.out.below (pbD (Below.refl _ _) _))).mono ?_
        rintro e w' ⟨rfl, rfl⟩
        go_wp2
        go_quiet (first | (go_at_call 17; refine (hsg _ (HT.out.below (pbD (Below.refl _ _) _))).mono ?_; rintro e w' ⟨rfl, rfl⟩; exact ⟨rfl, _, rfl⟩))
        go_wp2
        go_roundw
        case rel => first | exact ⟨p + 1, by go_num, hp4, Lib.hid (HT.out.below (pbD (Below.refl _ _) _)), Lib.hid (pbD HB.out _)⟩ | ((repeat apply Exists.intro); exact ⟨⟨p + 1, by go_num, hp4, Lib.hid (HT.out.below (pbD (Below.refl _ _) _)), Lib.hid (pbD HB.out _)⟩, rfl⟩)
        case measure => simp [intOf]; omega
      · obtain ⟨o, ho⟩ : ∃ o, wordO (some (some l0)) x.f2 = o := ⟨_, rfl⟩
        rw [ho] at hwd
        simp only [ans] at hwd
        clear hw5 hs8 ho
        go_wp2
        go_quiet (first | (go_at_call 15; exact Calls.quiet_of_same (hfd _ (HT.out.below (pbD (Below.refl _ _) _)))))
        go_wp2_with fail
        go_at_call 16
        refine (hwd _ (HT.out.below (pbD (Below.refl _ _) _))).mono ?_
        rintro e w' ⟨rfl, rfl⟩
        go_wp2
        go_quiet (fail)
        go_wp2
        go_roundw
        case rel => first | exact ⟨p + 1, by go_num, hp4, Lib.hid (HT.out.below (pbD (Below.refl _ _) _)), Lib.hid (pbD HB.out _)⟩ | ((repeat apply Exists.intro); exact ⟨⟨p + 1, by go_num, hp4, Lib.hid (HT.out.below (pbD (Below.refl _ _) _)), Lib.hid (pbD HB.out _)⟩, rfl⟩)
        case measure => simp [intOf]; omega
    · have hi0 : ¬ (p : Int) < (l0.length : Int) := by omega
      go_wp2_with fail
      go_at_call 10
      refine (trie_awake.calls _).mono ?_
      rintro e w4 ⟨rfl, b4⟩
      go_wp2
      go_ret
      exact ⟨rfl, bSp HB.out b4⟩
end Go.Proofs.Ytbpbniemjjhecaa.G
namespace Go.Proofs.Ytbpbniemjjhecaa.PChk
open Go.RowKit Go.Proofs.Ytbpbniemjjhecaa.G Go.Proofs.Ytbpbniemjjhecaa.PureC Go.Proofs.YtbpbniemjjhecaaW.PrintWords
def w10_TrieFound.f (_ : Nat) (_ : List Rl) : Option Bool := some true
theorem w10_TrieFound.calls (k : Nat) (A0 : Option Addr) (c0 : Nat) (l0 : List Rl) (r : Bool) (w : World) (hr0 : Kd.C k33 w A0 l0.length l0) (hc0 : l0.length ≤ c0) (h : w10_TrieFound.f k l0 = some r) (hT : r = true) :
    Calls Try.prog 4 #[.slice A0 l0.length c0] w fun e w' => e = .returned (.bool r) ∧ Below w.heap.size w w' := by
  subst hT
  rcases long_is l0 500 (Nat.le_refl _) with h | ⟨h, hl, hs⟩
  · exact found_long A0 c0 l0 w hr0 hc0 h
  · rcases table_two l0 with ht | ht
    · have ht2 := table_check l0 (by omega) hs
      rw [ht] at ht2
      obtain ⟨h1, h2⟩ := new_apart l0 hl hs ht
      exact found_some A0 c0 l0 w hr0 hc0 hl hs h ht2 h1 h2
    · exact found_none A0 c0 l0 _ _ w hr0 hc0 h (table_check l0 (by omega) hs) (new_not l0 hl hs ht) ht
end Go.Proofs.Ytbpbniemjjhecaa.PChk
namespace Go.Proofs.Ytbpbniemjjhecaa.PureC
theorem trieFound_true (l0 : List Go.Proofs.Ytbpbniemjjhecaa.G.Rl) : ∃ k, Go.Proofs.Ytbpbniemjjhecaa.PChk.w10_TrieFound.f k l0 = some true := ⟨0, rfl⟩
end Go.Proofs.Ytbpbniemjjhecaa.PureC
