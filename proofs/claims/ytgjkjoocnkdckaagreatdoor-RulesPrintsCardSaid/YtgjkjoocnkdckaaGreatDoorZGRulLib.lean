import Derived.Test.YtgjkjoocnkdckaaGreatDoorZGCellParse2
import Derived.Test.YtgjkjoocnkdckaaGreatDoorZGCharsCase
import Derived.Test.YtgjkjoocnkdckaaGreatDoorZShelf
import Derived.Test.YtgjkjoocnkdckaaGreatDoorZWSized
namespace Go.Proofs.YtgjkjoocnkdckaaGreatDoor.G
open Go.RowKit Go.Shelf Go.Proofs.YtgjkjoocnkdckaaGreatDoorW.PrintWords Go.Proofs.YtgjkjoocnkdckaaGreatDoorW.PrintLast Go.Proofs.YtgjkjoocnkdckaaGreatDoorW.PrintMore
def strings_Join.f (l0 : List ByteArray) (a1 : ByteArray) : Option ByteArray := if l0.length ≤ 140737488355328 ∧ (Lib.join (l0.map (·.data.toList)) a1.data.toList).length ≤ 140737488355328 then some ⟨(Lib.join (l0.map (·.data.toList)) a1.data.toList).toArray⟩ else none
theorem strings_Join.calls (A0 : Option Addr) (c0 : Nat) (l0 : List ByteArray) (a1 : ByteArray) (r : ByteArray) (w : World) (hr0 : Kd.C Kd.string w A0 l0.length l0) (hc0 : l0.length ≤ c0) (h : strings_Join.f l0 a1 = some r) :
    Calls Tryz.prog 70 #[.slice A0 l0.length c0, .string a1] w fun e w' => e = .returned (.string r) ∧ Below w.heap.size w w' := by
  unfold strings_Join.f at h
  by_cases hl : l0.length ≤ 140737488355328 ∧ (Lib.join (l0.map (·.data.toList)) a1.data.toList).length ≤ 140737488355328
  · rw [if_pos hl] at h
    obtain rfl := Option.some.inj h
    rcases l0 with _ | ⟨x, xs⟩
    · refine (Tryz.strings_Join_none A0 c0 a1 w).mono ?_
      rintro e w' ⟨rfl, rfl⟩
      exact ⟨rfl, Below.refl _ _⟩
    · obtain ⟨hn, hm, hp⟩ := hr0
      obtain ⟨ad, rfl, hc⟩ := hp (by simp)
      have hcell : ∀ (j : Nat) y, (x :: xs)[j]? = some y → w.cell? (ad.add j) = some (.string y) := by
        intro j y hy
        obtain ⟨c, _, hk, hcc⟩ := hc j y hy
        have hk' : c = [Value.string y] := hk
        have h3 := hcc 0 (.string y) (by rw [hk']; rfl)
        have e3 : j * Kd.string.sz + 0 = j := by rw [show Kd.string.sz = 1 from rfl]; omega
        rw [e3] at h3
        exact h3
      obtain ⟨bk, o, sp⟩ := ad
      have hsp : sp = none := by
        have h3 := hcell 0 x rfl
        rcases sp with _ | z
        · rfl
        · exfalso
          unfold World.cell? at h3
          simp [Addr.add] at h3
          split at h3 <;> cases h3
      subst hsp
      have h0 : bk < w.heap.size := World.block_lt_of_cell? w _ (hcell 0 x rfl)
      refine (Tryz.strings_Join bk o c0 (x :: xs) a1 w (fun j y hy => ?_) h0 hl.1 hc0 hl.2).mono ?_
      · have h3 := hcell j y hy
        have e3 : (⟨bk, o, none⟩ : Addr).add j = ⟨bk, o + j, none⟩ := by unfold Addr.add; split <;> simp_all
        rw [e3] at h3
        exact h3
      · rintro e w' ⟨rfl, hb⟩
        exact ⟨rfl, hb⟩
  · rw [if_neg hl] at h; cases h
def cell_Parse.f (a0 : ByteArray) : Option (ByteArray × Int × Int) := if a0.size ≤ 140737488351232 then cell_Parse.g a0 else none
theorem cell_Parse.calls (a0 : ByteArray) (r1 : ByteArray) (r2 r3 : Int) (w : World) (h : cell_Parse.f a0 = some (r1, r2, r3)) :
    Calls Tryz.prog 73 #[.string a0] w fun e w' => e = .returned (.tuple #[.string r1, .int .i64 r2, .int .i64 r3]) ∧ Below w.heap.size w w' := by
  unfold cell_Parse.f at h
  by_cases hs : a0.size ≤ 140737488351232
  · rw [if_pos hs] at h
    exact cell_Parse.any a0 hs r1 r2 r3 w h
  · rw [if_neg hs] at h; cases h
theorem setCell_drewN (w : World) (a : Addr) (v : Value) (n : Nat) : (w.drewN n).setCell a v = (w.setCell a v).drewN n := rfl
theorem splitK_one (b : UInt8) : ∀ (k : Nat) (l : List UInt8), l.count b ≤ k → Lib.splitK [b] 0 k l = splitOn b l
  | 0, l, h => by
    have hn : Lib.indexByte l b = -1 := by
      rcases Int.lt_or_le (Lib.indexByte l b) 0 with h1 | h1
      · have := Lib.indexByte_ge l b; omega
      · obtain ⟨o, ho⟩ : ∃ o : Nat, Lib.indexByte l b = o := ⟨(Lib.indexByte l b).toNat, by omega⟩
        have h2 := List.count_pos_iff.2 (List.mem_of_getElem? (Lib.indexByte_some ho).1)
        omega
    rw [splitOn_none b l hn]
    rfl
  | k + 1, l, h => by
    unfold Lib.splitK
    rw [Lib.index_one]
    by_cases hn : Lib.indexByte l b = -1
    · rw [if_pos (beq_iff_eq.2 hn), splitOn_none b l hn]
    · obtain ⟨o, ho⟩ : ∃ o : Nat, Lib.indexByte l b = o := ⟨(Lib.indexByte l b).toNat, by have := Lib.indexByte_ge l b; omega⟩
      have hg := (Lib.indexByte_some ho).1
      obtain ⟨hl, he⟩ := List.getElem?_eq_some_iff.1 hg
      rw [if_neg (by rw [beq_iff_eq]; exact hn), splitOn_some b l o ho, ho]
      have hd : l.drop o = b :: l.drop (o + 1) := by rw [List.drop_eq_getElem_cons hl, he]
      have hc : (l.drop (o + 1)).count b ≤ k := by
        have h1 : l.count b = (l.take o).count b + (l.drop o).count b := by rw [← List.count_append, List.take_append_drop]
        rw [hd, List.count_cons_self] at h1
        omega
      have ih := splitK_one b k (l.drop (o + 1)) hc
      simp only [Int.toNat_natCast, List.length_singleton, Nat.add_zero]
      rw [ih]
theorem splitB_parts (b : UInt8) (s : ByteArray) : Lib.splitB ⟨#[b]⟩ 0 (Lib.countB s ⟨#[b]⟩) s = parts b s := by
  have h := Lib.splitB_data ⟨#[b]⟩ 0 (Lib.countB s ⟨#[b]⟩) s
  have hc : Lib.countB s ⟨#[b]⟩ = s.data.toList.count b := Lib.count_one b s.data.toList
  have h2 : (Lib.splitB ⟨#[b]⟩ 0 (Lib.countB s ⟨#[b]⟩) s).map (·.data.toList) = splitOn b s.data.toList := by
    rw [h]
    exact splitK_one b _ _ (by rw [hc]; exact Nat.le_refl _)
  unfold parts
  rw [← h2, List.map_map]
  have e : ((fun l : List UInt8 => (⟨l.toArray⟩ : ByteArray)) ∘ fun x : ByteArray => x.data.toList) = id := by
    funext x
    exact ByteArray.ext (Array.toList_inj.1 rfl)
  rw [e, List.map_id]
theorem genSplit_one (s : ByteArray) (c : UInt8) (w : World) (hs : s.size < 4294967281) :
    Calls Tryz.prog 96 #[.string s, .string ⟨#[c]⟩, .int .i64 0, .int .i64 (-1)] w fun e w' =>
      e = .returned (.slice (some ⟨w.heap.size, 0, none⟩) (parts c s).length (parts c s).length) ∧ w' = w.alloc (.cells ((parts c s).map Value.string).toArray 9) := by
  have hle := Lib.countB_le ⟨#[c]⟩ (Nat.le_refl 1) s.size s (Nat.le_refl _)
  have hlen := Lib.splitB_all ⟨#[c]⟩ (Nat.le_refl 1) 0 _ s rfl
  have h := Any.strings_genSplit_core Tryz.lays221 (by kernel_rfl) s ⟨#[c]⟩ 0 (-1) (Lib.countB s ⟨#[c]⟩ + 1) w hs (Nat.le_refl 1) (Nat.zero_le _)
    (fun x d hx => by
      refine (show Calls Tryz.prog 108 _ _ _ from (Tryz.strings_Index_one x c (w.alloc (.cells d 9))).mono fun e w' h => ⟨?_, h.2⟩)
      rw [h.1, ← Lib.index_one]
      first | done | rfl)
    (by
      refine (show Calls Tryz.prog 124 _ _ _ from (Tryz.strings_Count_one s c w).mono fun e w' h => ⟨?_, h.2⟩)
      rw [h.1]
      have hc : Lib.countB s ⟨#[c]⟩ = Lib.countByte s.data.toList c := Lib.count_one c s.data.toList
      first | done | rw [hc])
    (by decide) (by decide) (by rw [if_pos (by decide)]; omega)
  rw [Nat.add_sub_cancel, hlen, splitB_parts] at h
  rw [splitB_parts] at hlen
  have e2 : Lib.cellsOf (parts c s) (Lib.countB s ⟨#[c]⟩ + 1) = ((parts c s).map Value.string).toArray := by rw [← hlen]; exact Lib.cellsOf_full _
  rw [e2, ← hlen] at h
  exact h
set_option maxHeartbeats 800000 in
theorem split_one (s : ByteArray) (c : UInt8) (w : World) (hs : s.size < 4294967281) :
    Calls Tryz.prog 66 #[.string s, .string ⟨#[c]⟩] w fun e w' =>
      e = .returned (.slice (some ⟨w.heap.size, 0, none⟩) (parts c s).length (parts c s).length) ∧ w' = w.alloc (.cells ((parts c s).map Value.string).toArray 9) := by
  have h := genSplit_one s c w hs
  go_enter Tryz.func66, Tryz.ntmps66
  go_wp2_with (go_at_call 96; refine h.mono ?_; rintro e w' ⟨rfl, hw⟩; rw [hw])
  go_ret
  exact ⟨rfl, rfl⟩
end Go.Proofs.YtgjkjoocnkdckaaGreatDoor.G
