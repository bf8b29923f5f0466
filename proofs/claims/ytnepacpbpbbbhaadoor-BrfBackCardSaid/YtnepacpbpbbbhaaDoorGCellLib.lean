/- What the library's functions that cell calls come to, and cell's Signs and Cells. -/
import Derived.Test.YtnepacpbpbbbhaaDoorGCellParse
import Derived.Test.YtnepacpbpbbbhaaDoorWMore
namespace Go.Proofs.YtnepacpbpbbbhaaDoor.G
open Go.RowKit Go.Shelf Go.Proofs.YtnepacpbpbbbhaaDoorW.PrintWords Go.Proofs.YtnepacpbpbbbhaaDoorW.PrintLast Go.Proofs.YtnepacpbpbbbhaaDoorW.PrintMore

def strings_IndexByte.f (a0 : ByteArray) (a1 : Int) : Option Int := some (Lib.indexByte a0.data.toList a1.toNat.toUInt8)
theorem strings_IndexByte.calls (a0 : ByteArray) (a1 : Int) (r : Int) (w : World) (h : strings_IndexByte.f a0 a1 = some r) :
    Calls Tryd.prog 41 #[.string a0, .int .u8 a1] w fun e w' => e = .returned (.int .i64 r) ∧ Drawn0 w w' := by
  obtain rfl := Option.some.inj h
  refine (Tryd.strings_IndexByte a0 a1 w).mono ?_
  rintro e w' ⟨rfl, rfl⟩
  exact ⟨rfl, Drawn0.refl _⟩

def bits_OnesCount8.f (a0 : Int) : Option Int := if 0 ≤ a0 then (if a0 ≤ 255 then some (Lib.onesCount a0.toNat) else none) else none
theorem bits_OnesCount8.calls (a0 : Int) (r : Int) (w : World) (h : bits_OnesCount8.f a0 = some r) :
    Calls Tryd.prog 43 #[.int .u8 a0] w fun e w' => e = .returned (.int .i64 r) ∧ Drawn0 w w' := by
  unfold bits_OnesCount8.f at h
  by_cases h0 : 0 ≤ a0
  · rw [if_pos h0] at h
    by_cases h1 : a0 ≤ 255
    · rw [if_pos h1] at h
      obtain rfl := Option.some.inj h
      refine (Tryd.bits_OnesCount8 a0 w h0 h1).mono ?_
      rintro e w' ⟨rfl, rfl⟩
      exact ⟨rfl, Drawn0.refl _⟩
    · rw [if_neg h1] at h; cases h
  · rw [if_neg h0] at h; cases h

def strings_Join.f (l0 : List ByteArray) (a1 : ByteArray) : Option ByteArray := if l0.length ≤ 140737488355328 ∧ (Lib.join (l0.map (·.data.toList)) a1.data.toList).length ≤ 140737488355328 then some ⟨(Lib.join (l0.map (·.data.toList)) a1.data.toList).toArray⟩ else none
theorem strings_Join.calls (A0 : Option Addr) (c0 : Nat) (l0 : List ByteArray) (a1 : ByteArray) (r : ByteArray) (w : World) (hr0 : Kd.C Kd.string w A0 l0.length l0) (hc0 : l0.length ≤ c0) (h : strings_Join.f l0 a1 = some r) :
    Calls Tryd.prog 45 #[.slice A0 l0.length c0, .string a1] w fun e w' => e = .returned (.string r) ∧ Below w.heap.size w w' := by
  unfold strings_Join.f at h
  by_cases hl : l0.length ≤ 140737488355328 ∧ (Lib.join (l0.map (·.data.toList)) a1.data.toList).length ≤ 140737488355328
  · rw [if_pos hl] at h
    obtain rfl := Option.some.inj h
    rcases l0 with _ | ⟨x, xs⟩
    · refine (Tryd.strings_Join_none A0 c0 a1 w).mono ?_
      rintro e w' ⟨rfl, rfl⟩
      exact ⟨rfl, Below.refl _ _⟩
    · obtain ⟨hn, hm, hp⟩ := hr0
      obtain ⟨ad, rfl, hc⟩ := hp (by simp)
      have hcell : ∀ (j : Nat) y, (x :: xs)[j]? = some y → w.cell? (ad.add j) = some (.string y) := by
        intro j y hy
        obtain ⟨c, _, hk, hcc⟩ := hc j y hy
        have hk' : c = [Value.string y] := hk
        have h3 := hcc 0 (.string y) (by rw [hk']; rfl)
        have e3 : j * Kd.string.sz + 0 = j := by rw [show Kd.string.sz = 1 from rfl]; omega
        rw [e3] at h3
        exact h3
      obtain ⟨bk, o, sp⟩ := ad
      have hsp : sp = none := by
        have h3 := hcell 0 x rfl
        rcases sp with _ | z
        · rfl
        · exfalso
          unfold World.cell? at h3
          simp [Addr.add] at h3
          split at h3 <;> cases h3
      subst hsp
      have h0 : bk < w.heap.size := World.block_lt_of_cell? w _ (hcell 0 x rfl)
      refine (Tryd.strings_Join bk o c0 (x :: xs) a1 w (fun j y hy => ?_) h0 hl.1 hc0 hl.2).mono ?_
      · have h3 := hcell j y hy
        have e3 : (⟨bk, o, none⟩ : Addr).add j = ⟨bk, o + j, none⟩ := by unfold Addr.add; split <;> simp_all
        rw [e3] at h3
        exact h3
      · rintro e w' ⟨rfl, hb⟩
        exact ⟨rfl, hb⟩
  · rw [if_neg hl] at h; cases h

def signF (c : Int) : Int × Bool := if c / 64 = 0 then (bt signs c, true) else (0, false)
theorem may_any (c : Int) (w : World) : Calls Tryd.prog 39 #[.int .u8 c] w fun e w' => e = .returned (.bool ((c / 64) == 0)) ∧ Below w.heap.size w w' := by
  go_enter Tryd.func39, Tryd.ntmps39
  go_wp2
  go_ret
  exact ⟨rfl, Below.refl _ _⟩
theorem sign_any (c : Int) (w : World) (h0 : 0 ≤ c) (h1 : c < 256) : Calls Tryd.prog 12 #[.int .u8 c] w fun e w' => e = .returned (.tuple #[.int .u8 (signF c).1, .bool (signF c).2]) ∧ Below w.heap.size w w' := by
  by_cases h : c / 64 = 0
  · have hb : ((c / 64) == 0) = true := by simp [h]
    have hS : Hid (signF c = (bt signs c, true)) := by simp only [Hid, signF, if_pos h]
    have p6 : 0 ≤ c := h0
    have q6 : c < 64 := by omega
    clear h
    have hm := fun w => (may_any c w).mono (R' := fun e w' => e = .returned (.bool true) ∧ Below w.heap.size w w') (fun e w' h => by rw [hb] at h; exact h)
    clear hb
    have hx6 := bt_at signs c
    unfold signs at hx6
    replace p6 := eq_true p6
    replace q6 := eq_true q6
    go_enter Tryd.func12, Tryd.ntmps12
    go_wp2_with (go_at_call 39; refine (hm _).mono ?_; rintro e w1 ⟨rfl, hb1⟩)
    go_ret2
    rw [hS.out]
    exact ⟨rfl, hb1⟩
  · have hb : ((c / 64) == 0) = false := by simp [h]
    have hS : Hid (signF c = (0, false)) := by simp only [Hid, signF, if_neg h]
    clear h
    have hm := fun w => (may_any c w).mono (R' := fun e w' => e = .returned (.bool false) ∧ Below w.heap.size w w') (fun e w' h => by rw [hb] at h; exact h)
    clear hb
    go_enter Tryd.func12, Tryd.ntmps12
    go_wp2_with (go_at_call 39; refine (hm _).mono ?_; rintro e w1 ⟨rfl, hb1⟩)
    go_ret2
    rw [hS.out]
    exact ⟨rfl, hb1⟩
def fromF (c : Int) : Int × Bool := if Lib.indexByte signs.data.toList c.toNat.toUInt8 < 0 then (0, false) else (Lib.indexByte signs.data.toList c.toNat.toUInt8 % 256, true)
theorem from_any (c : Int) (w : World) : Calls Tryd.prog 14 #[.int .u8 c] w fun e w' => e = .returned (.tuple #[.int .u8 (fromF c).1, .bool (fromF c).2]) ∧ Below w.heap.size w w' := by
  have hm := fun w => Tryd.strings_IndexByte signs c w
  have hF : Hid (fromF c = if Lib.indexByte signs.data.toList c.toNat.toUInt8 < 0 then (0, false) else (Lib.indexByte signs.data.toList c.toNat.toUInt8 % 256, true)) := by simp only [Hid, fromF]
  generalize Lib.indexByte signs.data.toList c.toNat.toUInt8 = k at hm hF
  unfold signs at hm
  by_cases hkk : k < 0
  · go_enter Tryd.func14, Tryd.ntmps14
    go_wp2_with (go_at_call 41; refine (hm _).mono ?_; rintro e w1 ⟨rfl, rfl⟩)
    go_ret2
    rw [hF.out, if_pos hkk]
    exact ⟨rfl, Below.refl _ _⟩
  · go_enter Tryd.func14, Tryd.ntmps14
    go_wp2_with (go_at_call 41; refine (hm _).mono ?_; rintro e w1 ⟨rfl, rfl⟩)
    go_ret2
    rw [hF.out, if_neg (by omega)]
    exact ⟨rfl, Below.refl _ _⟩
def cell_Parse.f (a0 : ByteArray) : Option (ByteArray × Int × Int) := if a0.size ≤ 140737488351232 then cell_Parse.g a0 else none
theorem cell_Parse.calls (a0 : ByteArray) (r1 : ByteArray) (r2 r3 : Int) (w : World) (h : cell_Parse.f a0 = some (r1, r2, r3)) :
    Calls Tryd.prog 22 #[.string a0] w fun e w' => e = .returned (.tuple #[.string r1, .int .i64 r2, .int .i64 r3]) ∧ Below w.heap.size w w' := by
  unfold cell_Parse.f at h
  by_cases hs : a0.size ≤ 140737488351232
  · rw [if_pos hs] at h
    exact cell_Parse.any a0 hs r1 r2 r3 w h
  · rw [if_neg hs] at h; cases h
/-- What becomes of all bytes. -/
def cell_Signs.f (a0 : ByteArray) : Option (ByteArray × Int) := if a0.size ≤ 140737488351232 then some (if 0 ≤ (eachGo signF a0.data.toList [] 0).2 then (⟨#[]⟩, 1) else (strOfNums (eachGo signF a0.data.toList [] 0).1, 0)) else none
theorem cell_Signs.calls (a0 : ByteArray) (r1 : ByteArray) (r2 : Int) (w : World) (h : cell_Signs.f a0 = some (r1, r2)) :
    Calls Tryd.prog 26 #[.string a0] w fun e w' => e = .returned (.tuple #[.string r1, .int .i64 r2]) ∧ Below w.heap.size w w' := by
  unfold cell_Signs.f at h
  by_cases hs : a0.size ≤ 140737488351232
  · rw [if_pos hs] at h
    have h := Option.some.inj h
    have hm := fun w => cell_each.calls a0 hs 12 signF (enters_of Tryd.func12 (by kernel_rfl) rfl) (fun c W h0 h1 => sign_any c W h0 h1) w
    generalize eachGo signF a0.data.toList [] 0 = p at h hm
    obtain ⟨l, k⟩ := p
    dsimp only at h hm
    by_cases hk : 0 ≤ k
    · rw [if_pos hk] at h
      simp only [Prod.mk.injEq] at h
      obtain ⟨rfl, rfl⟩ := h
      go_enter Tryd.func26, Tryd.ntmps26
      go_wp2_with (go_at_call 46; refine (hm _).mono ?_; rintro e w1 ⟨rfl, hb1⟩)
      go_ret2
      exact ⟨rfl, hb1⟩
    · rw [if_neg hk] at h
      simp only [Prod.mk.injEq] at h
      obtain ⟨rfl, rfl⟩ := h
      go_enter Tryd.func26, Tryd.ntmps26
      go_wp2_with (go_at_call 46; refine (hm _).mono ?_; rintro e w1 ⟨rfl, hb1⟩)
      go_ret2
      exact ⟨rfl, hb1⟩
  · rw [if_neg hs] at h; cases h
/-- The cells of signs. -/
def cell_Cells.f (a0 : ByteArray) : Option (ByteArray × Int × Int) := if a0.size ≤ 140737488351232 then some (if 0 ≤ (eachGo fromF a0.data.toList [] 0).2 then (⟨#[]⟩, (eachGo fromF a0.data.toList [] 0).2, 2) else (strOfNums (eachGo fromF a0.data.toList [] 0).1, 0, 0)) else none
theorem cell_Cells.calls (a0 : ByteArray) (r1 : ByteArray) (r2 r3 : Int) (w : World) (h : cell_Cells.f a0 = some (r1, r2, r3)) :
    Calls Tryd.prog 28 #[.string a0] w fun e w' => e = .returned (.tuple #[.string r1, .int .i64 r2, .int .i64 r3]) ∧ Below w.heap.size w w' := by
  unfold cell_Cells.f at h
  by_cases hs : a0.size ≤ 140737488351232
  · rw [if_pos hs] at h
    have h := Option.some.inj h
    have hm := fun w => cell_each.calls a0 hs 14 fromF (enters_of Tryd.func14 (by kernel_rfl) rfl) (fun c W _ _ => from_any c W) w
    generalize eachGo fromF a0.data.toList [] 0 = p at h hm
    obtain ⟨l, k⟩ := p
    dsimp only at h hm
    by_cases hk : 0 ≤ k
    · rw [if_pos hk] at h
      simp only [Prod.mk.injEq] at h
      obtain ⟨rfl, rfl, rfl⟩ := h
      go_enter Tryd.func28, Tryd.ntmps28
      go_wp2_with (go_at_call 46; refine (hm _).mono ?_; rintro e w1 ⟨rfl, hb1⟩)
      go_ret3
      exact ⟨rfl, hb1⟩
    · rw [if_neg hk] at h
      simp only [Prod.mk.injEq] at h
      obtain ⟨rfl, rfl, rfl⟩ := h
      go_enter Tryd.func28, Tryd.ntmps28
      go_wp2_with (go_at_call 46; refine (hm _).mono ?_; rintro e w1 ⟨rfl, hb1⟩)
      go_ret3
      exact ⟨rfl, hb1⟩
  · rw [if_neg hs] at h; cases h
end Go.Proofs.YtnepacpbpbbbhaaDoor.G
