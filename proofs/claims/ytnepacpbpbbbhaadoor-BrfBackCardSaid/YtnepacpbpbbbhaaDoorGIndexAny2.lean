/- strings.IndexAny at the two ends of lines: a short text, whatever its bytes. -/
import Derived.Test.YtnepacpbpbbbhaaDoorGIndexAny
import Derived.Lib.OthersKept
import Derived.Lib.TrimU
namespace Go.Proofs.YtnepacpbpbbbhaaDoor.G
open Go.RowKit Go.Shelf Go.Lib Go.Proofs.YtnepacpbpbbbhaaDoorW.PrintWords Go.Proofs.YtnepacpbpbbbhaaDoorW.PrintLast Go.Proofs.YtnepacpbpbbbhaaDoorW.PrintMore

/-- The bytes of a rune that is no ASCII are no ends of lines. -/
theorem noAny_rune (s : ByteArray) (i : Nat) (hi : i < s.size) (hb : 128 ≤ (s[i]'hi).toNat) (h : NoAny s.data.toList [10, 12] i) : NoAny s.data.toList [10, 12] (i + (Utf8.decode s i).2) := by
  intro j b hj hjb
  by_cases hlt : j < i
  · exact h j b hlt hjb
  have hget : s.get! j = b := by
    obtain ⟨hl, he⟩ := List.getElem?_eq_some_iff.1 hjb
    have hl2 : j < s.size := by simpa using hl
    simp [ByteArray.get!, hl2] at *
    exact he
  have high : 128 ≤ b.toNat := by
    have hd := decode_at s i
    have hc := decodeN_conts (s.size - i) (s.get! i).toNat (s.get! (i + 1)).toNat (s.get! (i + 2)).toNat (s.get! (i + 3)).toNat
    rw [← hd] at hc
    obtain ⟨c1, c2, c3, c4⟩ := hc
    have h4 : j = i ∨ j = i + 1 ∨ j = i + 2 ∨ j = i + 3 := by omega
    rcases h4 with rfl | rfl | rfl | rfl
    · have : s.data.toList[j]? = some s[j] := by rw [List.getElem?_eq_getElem (by simpa using hi)]; rfl
      rw [this] at hjb
      cases hjb
      exact hb
    · have := (c1 (by omega)).1
      rw [hget] at this
      omega
    · have := (c2 (by omega)).1
      rw [hget] at this
      omega
    · have := (c3 (by omega)).1
      rw [hget] at this
      omega
  have h10 : b ≠ 10 := fun e => by rw [e] at high; exact absurd high (by decide)
  have h12 : b ≠ 12 := fun e => by rw [e] at high; exact absurd high (by decide)
  simp [h10, h12]

set_option maxHeartbeats 800000 in
set_option maxRecDepth 100000 in
theorem indexAny_short (s : ByteArray) (w : World) (h8 : s.size ≤ 8) :
    Calls Tryd.prog 53 #[.string s, .string ⟨#[10, 12]⟩] w fun e w' => e = .returned (.int .i64 (Lib.indexAny s.data.toList [10, 12])) ∧ Below w.heap.size w w' := by
  have h8z : decide ((8 : Int) < (s.size : Int)) = false := decide_eq_false (by omega)
  go_enter Tryd.func53, Tryd.ntmps53
  go_wp2_with fail
  refine (Tryd.strings_shouldUseASCIISet _ _).mono ?_
  rintro e w1 ⟨rfl, rfl⟩
  rw [h8z]
  go_wp2_with fail
  go_loopg [9, 10] s.size (fun g _ _ wx => ∃ i : Nat, s.size ≤ i + g ∧ wx.heap[w1.heap.size]? = some (.stringIter s i) ∧ Below w1.heap.size w1 wx ∧ Hid (NoAny s.data.toList [10, 12] i))
  case atStart => exact ⟨0, by omega, heap_alloc_new w1 _, (Below.refl _ _).alloc (Nat.le_refl _) _, Lib.hid (NoAny.zero _ _)⟩
  case round =>
    obtain ⟨i, hig, hit, hbl, HN⟩ := hrel
    by_cases hi : i < s.size
    · obtain ⟨g, rfl⟩ : ∃ g, gk = g + 1 := ⟨gk - 1, by omega⟩
      by_cases ha : (s[i]'hi).toNat < 128
      · have hnx := fun ty => run_next_ascii_at (P := Tryd.prog) wr w1.heap.size s i ty hit hi ha
        have hit2 := iterAt_heap wr w1.heap.size s i (i + 1) hit
        have hbl2 := below_iterAt hbl (Nat.le_refl _) s (i + 1)
        have hx : s.data.toList[i]? = some s[i] := by rw [List.getElem?_eq_getElem (by simpa using hi)]; rfl
        have hback : (((s[i]'hi).toNat : Int)).toNat.toUInt8 = s[i]'hi := by simp
        have hm : ∀ w : World, Calls Tryd.prog 63 #[.string ⟨#[10, 12]⟩, .int .i32 ((s[i]'hi).toNat : Int)] w fun e w' => e = .returned (.int .i64 (Lib.indexByte [10, 12] (s[i]'hi))) ∧ w' = w := fun w => by
          have h := Tryd.strings_IndexRune_ascii ⟨#[10, 12]⟩ ((s[i]'hi).toNat : Int) w (by omega) (by omega)
          rw [hback] at h
          exact h
        have hcon := Lib.contains_iff_indexByte [10, 12] (s[i]'hi)
        have HX := Lib.hid hx
        clear hx hback
        cases hin : ([10, 12] : List UInt8).contains (s[i]'hi) with
        | false =>
          rw [hin] at hcon
          have hq : decide ((0 : Int) ≤ Lib.indexByte [10, 12] (s[i]'hi)) = false := hcon.symm
          have HI := Lib.hid hin
          clear hcon hin
          generalize Lib.indexByte [10, 12] (s[i]'hi) = q at hm hq
          go_wp2_with fail
          refine (hm _).mono ?_
          rintro e w2 ⟨rfl, rfl⟩
          clear hm
          go_wp2
          go_roundg g
          case measure => omega
          case rel => exact ⟨i + 1, by omega, hit2, hbl2, Lib.hid (HN.out.succ HX.out HI.out)⟩
        | true =>
          rw [hin] at hcon
          have hq : decide ((0 : Int) ≤ Lib.indexByte [10, 12] (s[i]'hi)) = true := hcon.symm
          have HI := Lib.hid hin
          clear hcon hin
          generalize Lib.indexByte [10, 12] (s[i]'hi) = q at hm hq
          go_wp2_with fail
          refine (hm _).mono ?_
          rintro e w2 ⟨rfl, rfl⟩
          clear hm
          go_wp2
          go_ret
          exact ⟨by rw [indexAny_hit HN.out HX.out HI.out]; rfl, hbl2⟩
      · have hnx := fun ty => run_next_any_at (P := Tryd.prog) wr w1.heap.size s i ty hit hi
        have hd := decode_high s i hi (by omega)
        have hr := rune_le s i
        have HN2 := Lib.hid (noAny_rune s i hi (by omega) HN.out)
        have hit2 := iterAt_heap wr w1.heap.size s i (i + (Utf8.decode s i).2) hit
        have hbl2 := below_iterAt hbl (Nat.le_refl _) s (i + (Utf8.decode s i).2)
        generalize (Utf8.decode s i).1 = r at hnx hd hr
        generalize (Utf8.decode s i).2 = wd at hnx hd HN2 hit2 hbl2
        go_wp2_with fail
        refine (indexRune_high _ _ (by omega) (by omega)).mono ?_
        rintro e w2 ⟨rfl, hb⟩
        have hlt2 : w1.heap.size < (wr.iterAt w1.heap.size s (i + wd)).heap.size := by
          rcases Nat.lt_or_ge w1.heap.size (wr.iterAt w1.heap.size s (i + wd)).heap.size with h | h
          · exact h
          · rw [Array.getElem?_eq_none h] at hit2; cases hit2
        have hit3 := (hb.block w1.heap.size hlt2).trans hit2
        have hbl3 := below_then hbl2 hbl2.size hb
        clear hb hit2 hbl2
        go_wp2
        go_roundg g
        case measure => omega
        case rel => exact ⟨i + wd, by omega, hit3, hbl3, HN2⟩
    · have hnx := fun ty => run_next_end_at (P := Tryd.prog) wr w1.heap.size s i ty hit hi
      go_wp2
      go_ret
      have hnone : NoAny s.data.toList [10, 12] s.data.toList.length := fun j b hj hb => HN.out j b (by rw [show s.data.toList.length = s.size from by simp] at hj; omega) hb
      exact ⟨by rw [indexAny_none hnone]; rfl, hbl⟩
end Go.Proofs.YtnepacpbpbbbhaaDoor.G
