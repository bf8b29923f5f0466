import Derived.Test.YtgjkjoocnkdckaaGreatDoorZGRange
import Derived.Test.YtgjkjoocnkdckaaGreatDoorZGCellOf
import Derived.Test.YtgjkjoocnkdckaaGreatDoorZShelf
import Derived.RangeFuncNested
import Derived.RangeFuncBound
import Derived.Shelf.RegionOpen
import Derived.OwnWalkIn
import Derived.TacticsInMore
import Derived.LoopNIn
import Derived.LoopIn
namespace Go.Proofs.YtgjkjoocnkdckaaGreatDoor.G
open Go.RowKit Go.Shelf
attribute [local go_sem] Oper.semAt_some
def splitOn (b : UInt8) : List UInt8 → List (List UInt8)
  | [] => [[]]
  | c :: l => if c == b then [] :: splitOn b l else (c :: (splitOn b l).headD []) :: (splitOn b l).tail
theorem splitOn_none (b : UInt8) : ∀ l : List UInt8, Lib.indexByte l b = -1 → splitOn b l = [l]
  | [], _ => rfl
  | c :: l, h => by
    unfold Lib.indexByte at h
    by_cases hc : (c == b) = true
    · rw [if_pos hc] at h; omega
    · rw [if_neg hc] at h
      have hl : Lib.indexByte l b = -1 := by
        by_cases h2 : (Lib.indexByte l b == -1) = true
        · exact by simpa using h2
        · rw [if_neg h2] at h; have := Lib.indexByte_ge l b; simp at h2; omega
      rw [splitOn, if_neg hc, splitOn_none b l hl]
      rfl
theorem splitOn_some (b : UInt8) : ∀ (l : List UInt8) (k : Nat), Lib.indexByte l b = k → splitOn b l = l.take k :: splitOn b (l.drop (k + 1))
  | [], k, h => by simp [Lib.indexByte] at h
  | c :: l, k, h => by
    unfold Lib.indexByte at h
    by_cases hc : (c == b) = true
    · rw [if_pos hc] at h
      obtain rfl : k = 0 := by omega
      rw [splitOn, if_pos hc]
      rfl
    · rw [if_neg hc] at h
      have hg := Lib.indexByte_ge l b
      have h2 : ¬ ((Lib.indexByte l b == -1) = true) := fun h2 => by rw [if_pos h2] at h; omega
      rw [if_neg h2] at h
      obtain ⟨m, rfl⟩ : ∃ m, k = m + 1 := ⟨k - 1, by simp at h2; omega⟩
      rw [splitOn, if_neg hc, splitOn_some b l m (by omega)]
      rfl
def parts (b : UInt8) (s : ByteArray) : List ByteArray := (splitOn b s.data.toList).map fun l => ⟨l.toArray⟩
set_option maxHeartbeats 400000 in
theorem strings_SplitSeq.calls (s sep : ByteArray) (w : World) :
    Calls Tryz.prog 43 #[.string s, .string sep] w fun e w' =>
      e = .returned (.func (.func 106) #[] #[.pointer (some ⟨w.heap.size + 1, 0, none⟩), .pointer (some ⟨w.heap.size, 0, none⟩), .pointer (some ⟨w.heap.size + 2, 0, none⟩)]) ∧
      w' = ((w.alloc (.cells #[.string s] 9)).alloc (.cells #[.string sep] 9)).alloc (.cells #[.int .i64 0] 3) := by
  have h1 : ∀ w : World, Calls Tryz.prog 71 #[.string s, .string sep, .int .i64 0] w fun e w' =>
      e = .returned (.func (.func 106) #[] #[.pointer (some ⟨w.heap.size + 1, 0, none⟩), .pointer (some ⟨w.heap.size, 0, none⟩), .pointer (some ⟨w.heap.size + 2, 0, none⟩)]) ∧
      w' = ((w.alloc (.cells #[.string s] 9)).alloc (.cells #[.string sep] 9)).alloc (.cells #[.int .i64 0] 3) := by
    intro w
    go_enter Tryz.func71, Tryz.ntmps71
    go_wp2
    go_ret
    exact ⟨rfl, rfl⟩
  go_enter Tryz.func43, Tryz.ntmps43
  go_wp2_with (go_at_call 71; refine (h1 _).mono ?_; rintro e w' ⟨rfl, rfl⟩)
  go_ret
  exact ⟨rfl, rfl⟩
theorem parts_cut (b : UInt8) (s : ByteArray) (k : Nat) (h : splitOn b s.data.toList = s.data.toList.take k :: splitOn b (s.data.toList.drop (k + 1))) :
    parts b s = s.extract 0 k :: parts b (s.extract (k + 1) s.size) := by
  unfold parts
  rw [h, Lib.extract_to_end, List.map_cons]
  congr 1
  have h2 : (s.extract 0 k).data.toList = s.data.toList.take k := by rw [Lib.extract_data]; simp
  rw [← h2]
def boxLen (w : World) (b : Nat) : Nat := match w.cell? ⟨b, 0, none⟩ with | some (.string s) => s.size | _ => 0
theorem boxLen_of {w : World} {b t : Nat} {s : ByteArray} (h : Boxed w b t (.string s)) : boxLen w b = s.size := by simp [boxLen, h.cell]
def KeepsB (l : List Nat) (A B : World) : Prop := ∀ k, k ∈ l → B.heap[k]? = A.heap[k]?
set_option maxHeartbeats 400000 in
set_option maxRecDepth 100000 in
theorem splitSeq1_priv (n : Nat) (b : UInt8) (s : ByteArray) (bs bp bz : Nat) (w : World) (hs : Boxed w bs 9 (.string s)) (hp : Boxed w bp 9 (.string ⟨#[b]⟩)) (hz : Boxed w bz 3 (.int .i64 0)) (h1 : bs ≠ bp) (h2 : bs ≠ bz) (hsz : s.size ≤ 140737488351232) :
    SeqPriv Fence.wide n Tryz.prog 106 #[.pointer (some ⟨bp, 0, none⟩), .pointer (some ⟨bs, 0, none⟩), .pointer (some ⟨bz, 0, none⟩)] (fun x => #[.string x]) (KeepsB [bs, bp, bz]) (some bs) (parts b s) w := by
  intro l J Jx W hW hJ hJx hY h0
  have hs' : Boxed W bs 9 (.string s) := (hW.block _ hs.lt).trans hs
  have hp' : Boxed W bp 9 (.string ⟨#[b]⟩) := (hW.block _ hp.lt).trans hp
  have hz' : Boxed W bz 3 (.int .i64 0) := (hW.block _ hz.lt).trans hz
  have hpc := hp'.cell
  have HY := Lib.hid hY
  clear hY
  refine callsIn_of_wp Tryz.func106 rfl trivial ?_ rfl
  simp only [Tryz.ntmps106, List.size_toArray, List.length_cons, List.length_nil, Nat.reduceAdd, Nat.reduceSub, Array.replicate_succ, Array.replicate_zero, List.push_toArray, List.append_toArray, List.nil_append, List.cons_append]
  gi_wp2
  gi_loopw [] (fun wr => ∃ (pre : List ByteArray) (rest : ByteArray), Boxed wr bs 9 (.string rest) ∧ Boxed wr bp 9 (.string ⟨#[b]⟩) ∧ Boxed wr bz 3 (.int .i64 0) ∧
      Hid (parts b s = pre ++ parts b rest) ∧ rest.size ≤ s.size ∧ J pre wr) (fun wr => boxLen wr bs)
  case atStart => exact ⟨[], s, hs', hp', hz', Lib.hid rfl, Nat.le_refl _, h0⟩
  case round =>
    obtain ⟨pre, rest, hs1, hp1, hz1, HP, hle, hj⟩ := hrel
    have hsc := hs1.cell
    have hpc := hp1.cell
    have hzc := hz1.cell
    have hsf := hs1.frozen
    have hidx := Tryz.strings_Index_one rest b
    have hge := Lib.indexByte_ge rest.data.toList b
    by_cases hneg : Lib.indexByte rest.data.toList b = -1
    · have HL := Lib.hid (splitOn_none b _ hneg)
      obtain ⟨fn, tmps, assign, body, hy, hR⟩ := HY.out pre rest [] _ (by rw [HP.out]; simp only [parts, HL.out]; rfl) hj
      have hneg' : Lib.indexByte rest.data.toList b < 0 := by omega
      clear hneg
      gi_wp2_with fail
      refine ⟨trivial, (fun h => by cases h), (callsIn_wide.2 (hidx _)).mono ?_⟩
      rintro e w' ⟨rfl, rfl⟩
      gi_wp2_with fail
      refine ⟨(fun h => by cases h), hR.mono ?_⟩
      rintro e W3 (⟨rfl, hJ3, hk3⟩ | ⟨rfl, hJx3⟩)
      · gi_wp2
        go_end0
        refine ⟨⟨_, rfl⟩, .inl ?_⟩
        have := HP.out
        simp only [parts, HL.out] at this
        rw [show parts b s = pre ++ [rest] from this]
        exact hJ3
      · gi_wp2
        go_end0
        exact ⟨⟨_, rfl⟩, .inr ⟨_, hJx3⟩⟩
    · obtain ⟨k, hk⟩ : ∃ k : Nat, Lib.indexByte rest.data.toList b = k := ⟨(Lib.indexByte rest.data.toList b).toNat, by omega⟩
      have hlt : k < rest.size := by
        have := (Lib.indexByte_some hk).1
        have h3 := (List.getElem?_eq_some_iff.1 this).1
        simpa using h3
      have HL := Lib.hid (splitOn_some b _ k hk)
      rw [hk] at hidx
      clear hneg hge
      have Hk := Lib.hid hk
      clear hk
      have HC := Lib.hid (parts_cut b rest k (HL.out))
      obtain ⟨fn, tmps, assign, body, hy, hR⟩ := HY.out pre (rest.extract 0 k) (parts b (rest.extract (k + 1) rest.size)) _ (by rw [HP.out, HC.out]) hj
      have hneg : decide ((k : Int) < 0) = false := by simp
      have hsz2 : k + 1 ≤ rest.size := hlt
      gi_wp2_with fail
      refine ⟨trivial, (fun h => by cases h), (callsIn_wide.2 (hidx _)).mono ?_⟩
      rintro e w' ⟨rfl, rfl⟩
      gi_wp2_with fail
      refine ⟨(fun h => by cases h), hR.mono ?_⟩
      rintro e W3 (⟨rfl, hJ3, hk3⟩ | ⟨rfl, hJx3⟩)
      · have hs3 : Boxed W3 bs 9 (.string rest) := (hk3 bs (by simp)).trans hs1
        have hp3 : Boxed W3 bp 9 (.string ⟨#[b]⟩) := (hk3 bp (by simp)).trans hp1
        have hz3 : Boxed W3 bz 3 (.int .i64 0) := (hk3 bz (by simp)).trans hz1
        have hsc3 := hs3.cell
        have hpc3 := hp3.cell
        have hsf3 := hs3.frozen
        gi_wp2
        go_roundw
        case rel =>
          refine ⟨pre ++ [rest.extract 0 k], rest.extract (k + 1) rest.size, hs3.set _, hp3.kept (grownBy_setCell' _ _ _) (by simpa using Ne.symm h1), hz3.kept (grownBy_setCell' _ _ _) (by simpa using Ne.symm h2), ?_, ?_, ?_⟩
          · refine Lib.hid ?_
            rw [HP.out, HC.out, List.append_assoc]
            rfl
          · have : (rest.extract (k + 1) rest.size).size = rest.size - (k + 1) := by simp
            omega
          · exact hJ _ _ _ hJ3 (grownBy_setCell' _ _ _)
        case measure =>
          rw [boxLen_of (hs3.set _), boxLen_of hs1]
          have : (rest.extract (k + 1) rest.size).size = rest.size - (k + 1) := by simp
          omega
      · gi_wp2
        refine bodyPost_ret (results_none rfl _ _ _) rfl ?_
        exact ⟨⟨_, rfl⟩, .inr ⟨_, hJx3⟩⟩
end Go.Proofs.YtgjkjoocnkdckaaGreatDoor.G
