/- What cell's 'each' comes to at Sign and at From. -/
import Derived.Test.YtnepacpbpbbbhaaDoorGCellOf
import Derived.Test.YtnepacpbpbbbhaaDoorWWords
import Derived.Shelf.Abstract
namespace Go.Proofs.YtnepacpbpbbbhaaDoor.G
open Go.RowKit Go.Shelf Go.Proofs.YtnepacpbpbbbhaaDoorW.PrintWords

/-- What becomes of each byte, from those that have been, on. -/
def eachGo (f : Int → Int × Bool) : List UInt8 → List Int → Int → List Int × Int
  | [], acc, _ => (acc, -1)
  | b :: l, acc, i => if (f b.toNat).2 = true then eachGo f l (acc ++ [(f b.toNat).1]) (i + 1) else ([], i)

set_option maxHeartbeats 400000 in
set_option maxRecDepth 100000 in
theorem cell_each.calls (a0 : ByteArray) (hs : a0.size ≤ 140737488351232) (g : Nat) (f : Int → Int × Bool) (eg : Enters Tryd.prog g)
    (hf : ∀ (c : Int) (W : World), 0 ≤ c → c < 256 → Calls Tryd.prog g #[.int .u8 c] W fun e W' => e = .returned (.tuple #[.int .u8 (f c).1, .bool (f c).2]) ∧ Below W.heap.size W W') (w : World) :
    Calls Tryd.prog 46 #[.string a0, .func (.func g) #[] #[]] w fun e w' => e = .returned (.tuple #[.string (strOfNums (eachGo f a0.data.toList [] 0).1), .int .i64 (eachGo f a0.data.toList [] 0).2]) ∧ Below w.heap.size w w' := by
  have HF := Lib.hid hf; clear hf
  unfold Enters at eg
  have hmk := print_make (P := Tryd.prog) 30 5 .u8 1 Tryd.underlying30 (by kernel_rfl) (by decide) a0.size (by omega)
  go_enter Tryd.func46, Tryd.ntmps46
  go_wp2
  go_loopw [15] (fun i wr => ∃ (k : Nat) (acc : List Int), k ≤ a0.size ∧ i = .int .i64 k ∧ acc.length = k ∧
      Hid (eachGo f (a0.data.toList.drop k) acc k = eachGo f a0.data.toList [] 0) ∧
      wr.ownsRow w.heap.size 5 1 (.slice (some ⟨w.heap.size, 0, none⟩) a0.size a0.size) a0.size (nums .u8 (acc ++ List.replicate (a0.size - k) 0)) ∧ Below w.heap.size w wr)
    (fun i _ => a0.size - (intOf i).toNat)
  case atStart => exact ⟨0, [], by omega, rfl, rfl, Lib.hid rfl, by simpa using own_made w w.heap.size 5 .u8 a0.size (Nat.le_refl _) (by omega), (Below.refl _ _).alloc (Nat.le_refl _) _⟩
  case round =>
    obtain ⟨k, acc, hk, rfl, hlen, HE, HO, HB⟩ := hrel
    by_cases hlt : k < a0.size
    · have hd := Lib.hid (drop_at a0 k hlt)
      have hb := a0[k].toNat_lt
      have hb0 : (0 : Int) ≤ (a0[k].toNat : Int) := by omega
      have hb1 : (a0[k].toNat : Int) < 256 := by omega
      go_wp2_with fail
      refine (HF.out _ _ hb0 hb1).mono ?_
      rintro e w1 ⟨rfl, hb1⟩
      have hO1 := pw_own_below HO hb1
      have hB1 := below_then HB HB.size hb1
      clear HO HB
      cases hok : (f (a0[k].toNat : Int)).2 with
      | true =>
        obtain ⟨hc1, hc2⟩ := own_at hO1 k (by omega) (by omega)
        rw [Int.toNat_natCast] at hc1 hc2
        have hst := Lib.hid (own_store hO1 k (f (a0[k].toNat : Int)).1)
        go_wp2
        go_roundw
        case rel =>
          have hset : (acc ++ List.replicate (a0.size - k) 0).set k (f (a0[k].toNat : Int)).1 = (acc ++ [(f (a0[k].toNat : Int)).1]) ++ List.replicate (a0.size - (k + 1)) 0 := by
            rw [List.set_append_right _ _ (by omega), hlen, Nat.sub_self, show a0.size - k = (a0.size - (k + 1)) + 1 from by omega, List.replicate_succ]
            simp
          refine ⟨k + 1, acc ++ [(f (a0[k].toNat : Int)).1], by omega, by go_num, by simp [hlen], ?_, ?_, hB1.setCell (by exact Nat.le_refl _) _⟩
          · have h := HE.out
            rw [hd.out, eachGo, if_pos hok] at h
            exact h
          · have h := hst.out.1
            rw [Int.toNat_natCast, hset] at h
            exact h
        case measure => simp [intOf]; omega
      | false =>
        go_wp2
        go_ret2
        have h := HE.out
        rw [hd.out, eachGo, if_neg (by rw [hok]; decide)] at h
        exact ⟨by rw [← h]; rfl, hB1⟩
    · have hO2 : wr.ownsRow w.heap.size 5 1 (.slice (some ⟨w.heap.size, 0, none⟩) a0.size a0.size) a0.size (nums .u8 acc) := by
        have : a0.size - k = 0 := by omega
        simpa [this] using HO
      have hcv := own_string (P := Tryd.prog) Tryd.underlying30 Tryd.underlying5 Tryd.underlying9 hO2
      go_wp2
      go_ret2
      have h := HE.out
      rw [List.drop_of_length_le (by simpa using hlt), eachGo] at h
      exact ⟨by rw [← h]; rfl, HB⟩

/-- What Sign, From are, plainly. -/
def signs : ByteArray := ⟨#[32, 65, 49, 66, 39, 75, 50, 76, 64, 67, 73, 70, 47, 77, 83, 80, 34, 69, 51, 72, 57, 79, 54, 82, 94, 68, 74, 71, 62, 78, 84, 81, 44, 42, 53, 60, 45, 85, 56, 86, 46, 37, 91, 36, 43, 88, 33, 38, 59, 58, 52, 92, 48, 90, 55, 40, 95, 63, 87, 93, 35, 89, 41, 61]⟩
end Go.Proofs.YtnepacpbpbbbhaaDoor.G
