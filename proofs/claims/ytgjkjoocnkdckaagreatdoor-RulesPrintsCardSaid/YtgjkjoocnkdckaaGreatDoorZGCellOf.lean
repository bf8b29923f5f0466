import Derived.Test.YtgjkjoocnkdckaaGreatDoorProg
import Derived.Below
import Derived.WalkKit
import Derived.KernelRfl
import Derived.Laws.RangeAny
import Derived.Lib.OthersKept
import Derived.Laws.ShiftsVarLaws
import Derived.Laws.BitsLemmas
import Derived.Lib.Hide
import Derived.Outline
namespace Go.Proofs.YtgjkjoocnkdckaaGreatDoor.G
open Go.RowKit
theorem width_pos (s : ByteArray) (pos : Nat) (h : pos < s.size) : 1 ≤ (Utf8.decode s pos).2 := by
  by_cases ha : (s[pos]'h).toNat < 128
  · rw [decode_ascii s pos h ha]
    exact Nat.le_refl _
  · exact (decode_high s pos h (by omega)).2
def ofGo : List UInt8 → Int → Int → Int × Bool
  | [], c, _ => (c, c != 0)
  | b :: l, c, last => if (b.toNat : Int) ≤ last ∨ (54 : Int) < b.toNat then (0, false) else ofGo l (Go.bits .or .u8 c (2 ^ (b.toNat - 49) % 256)) b.toNat
def cell_Of.f (a0 : ByteArray) : Option (Int × Bool) := some (ofGo a0.data.toList 0 48)
theorem drop_at (s : ByteArray) (p : Nat) (h : p < s.size) : s.data.toList.drop p = s[p] :: s.data.toList.drop (p + 1) := by
  rw [List.drop_eq_getElem_cons (by simpa using h)]; rfl
theorem ret2 {a b : Int} {c d : Bool} (h : a = b) (h' : c = d) : Ending.returned (.tuple #[.int .u8 a, .bool c]) = .returned (.tuple #[.int .u8 b, .bool d]) := by rw [h, h']
set_option maxHeartbeats 400000 in
set_option maxRecDepth 100000 in
theorem cell_Of.calls (a0 : ByteArray) (r1 : Int) (r2 : Bool) (w : World) (h : cell_Of.f a0 = some (r1, r2)) :
    Calls Tryz.prog 109 #[.string a0] w fun e w' => e = .returned (.tuple #[.int .u8 r1, .bool r2]) ∧ Below w.heap.size w w' := by
  have H := Lib.hid (Option.some.inj h); clear h
  go_enter Tryz.func109, Tryz.ntmps109
  go_wp2
  go_loopw [4, 5] (fun c last w' => ∃ (pos : Nat) (ci la : Int), w' = w.iter a0 pos ∧ c = .int .u8 ci ∧ last = .int .i32 la ∧ 48 ≤ la ∧ la ≤ 54 ∧ Hid (ofGo (a0.data.toList.drop pos) ci la = (r1, r2))) (fun _ _ w' => a0.size - w'.iterPos w.heap.size)
  case atStart => exact ⟨0, 0, 48, rfl, rfl, rfl, by omega, by omega, by simpa using H⟩
  case round =>
    obtain ⟨pos, ci, la, rfl, rfl, rfl, hl1, hl2, HA⟩ := hrel
    by_cases hp : pos < a0.size
    · have HD := Lib.hid (drop_at a0 pos hp)
      by_cases ha : (a0[pos]'hp).toNat < 128
      · have hnx : ∀ ty, (Instr.next (.pointer (some ⟨w.heap.size, 0, none⟩)) true ty).run Tryz.prog (w.iter a0 pos) = _ := fun ty => run_next_ascii w a0 pos ty hp ha
        by_cases h1 : ((a0[pos]'hp).toNat : Int) ≤ la
        · go_wp2
          go_ret2
          have h := HA.out
          rw [HD.out, ofGo, if_pos (Or.inl h1)] at h
          simp only [Prod.mk.injEq] at h
          exact ⟨ret2 h.1 h.2, (Below.refl _ _).alloc (Nat.le_refl _) _⟩
        · by_cases h2 : (54 : Int) < (a0[pos]'hp).toNat
          · go_wp2
            go_ret2
            have h := HA.out
            rw [HD.out, ofGo, if_pos (Or.inr h2)] at h
            simp only [Prod.mk.injEq] at h
            exact ⟨ret2 h.1 h.2, (Below.refl _ _).alloc (Nat.le_refl _) _⟩
          · go_wp2
            go_roundw
            case rel =>
              refine ⟨pos + 1, _, _, rfl, rfl, rfl, by omega, by omega, ?_⟩
              have h := HA.out
              rw [HD.out, ofGo, if_neg (by omega)] at h
              exact h
            case measure =>
              simp
              omega
      · have hnx : ∀ ty, (Instr.next (.pointer (some ⟨w.heap.size, 0, none⟩)) true ty).run Tryz.prog (w.iter a0 pos) = _ := fun ty => run_next_any w a0 pos ty hp
        have hh := (decode_high a0 pos hp (by omega)).1
        have hh2 : (54 : Int) < ((Utf8.decode a0 pos).1 : Int) := by omega
        have hh3 : ¬ ((Utf8.decode a0 pos).1 : Int) ≤ la := by omega
        go_wp2
        go_ret2
        have h := HA.out
        rw [HD.out, ofGo, if_pos (Or.inr (by omega))] at h
        simp only [Prod.mk.injEq] at h
        exact ⟨ret2 h.1 h.2, (Below.refl _ _).alloc (Nat.le_refl _) _⟩
    · have hnx : ∀ ty, (Instr.next (.pointer (some ⟨w.heap.size, 0, none⟩)) true ty).run Tryz.prog (w.iter a0 pos) = _ := fun ty => run_next_end w a0 pos ty hp
      go_wp2
      go_ret2
      have h := HA.out
      rw [List.drop_of_length_le (by simpa using hp), ofGo] at h
      simp only [Prod.mk.injEq] at h
      exact ⟨ret2 h.1 h.2, (Below.refl _ _).alloc (Nat.le_refl _) _⟩
end Go.Proofs.YtgjkjoocnkdckaaGreatDoor.G
