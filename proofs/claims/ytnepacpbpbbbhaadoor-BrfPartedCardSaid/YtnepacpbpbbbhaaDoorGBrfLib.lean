/- What the library's functions that brf calls come to, at the arguments that brf has. -/
import Derived.Test.YtnepacpbpbbbhaaDoorGIndexAny2
namespace Go.Proofs.YtnepacpbpbbbhaaDoor.G
open Go.RowKit Go.Shelf Go.Proofs.YtnepacpbpbbbhaaDoorW.PrintWords Go.Proofs.YtnepacpbpbbbhaaDoorW.PrintLast Go.Proofs.YtnepacpbpbbbhaaDoorW.PrintMore

def strings_TrimRight.f (a0 a1 : ByteArray) : Option ByteArray := if a1.data.toList = [32] ∧ a0.size ≤ 9223372036854775807 then some (trimF 32 a0) else none
theorem strings_TrimRight.calls (a0 a1 : ByteArray) (r : ByteArray) (w : World) (h : strings_TrimRight.f a0 a1 = some r) :
    Calls Tryd.prog 48 #[.string a0, .string a1] w fun e w' => e = .returned (.string r) ∧ Drawn0 w w' := by
  unfold strings_TrimRight.f at h
  by_cases h0 : a1.data.toList = [32] ∧ a0.size ≤ 9223372036854775807
  · rw [if_pos h0] at h
    obtain rfl := Option.some.inj h
    have e1 : a1 = ⟨#[32]⟩ := ByteArray.ext (Array.toList_inj.1 h0.1)
    subst e1
    refine (Tryd.strings_TrimRight_one a0 32 (by decide) w h0.2).mono ?_
    rintro e w' ⟨rfl, rfl⟩
    exact ⟨rfl, Drawn0.refl _⟩
  · rw [if_neg h0] at h; cases h

def strings_IndexAny.f (a0 a1 : ByteArray) : Option Int := if a1.data.toList = [10, 12] ∧ a0.size < 4294967281 then some (Lib.indexAny a0.data.toList [10, 12]) else none
theorem strings_IndexAny.calls (a0 a1 : ByteArray) (r : Int) (w : World) (h : strings_IndexAny.f a0 a1 = some r) :
    Calls Tryd.prog 53 #[.string a0, .string a1] w fun e w' => e = .returned (.int .i64 r) ∧ Below w.heap.size w w' := by
  unfold strings_IndexAny.f at h
  by_cases h0 : a1.data.toList = [10, 12] ∧ a0.size < 4294967281
  · rw [if_pos h0] at h
    obtain rfl := Option.some.inj h
    have e1 : a1 = ⟨#[10, 12]⟩ := ByteArray.ext (Array.toList_inj.1 h0.1)
    subst e1
    have hac : ∀ (j : Nat) (b : UInt8), (⟨#[10, 12]⟩ : ByteArray).data.toList[j]? = some b → b.toNat < 128 := by
      intro j b hb
      have hm := List.mem_of_getElem? hb
      simp at hm
      rcases hm with rfl | rfl <;> decide
    by_cases h8 : 8 < a0.size
    · refine (Tryd.strings_IndexAny_long (zero_of_info (P := Tryd.prog) (n := 256) (by kernel_rfl)).1 a0 ⟨#[10, 12]⟩ w (by decide) h8 h0.2 (by decide) hac).mono ?_
      rintro e w' ⟨rfl, rfl⟩
      exact ⟨rfl, ((Below.refl _ _).alloc (Nat.le_refl _) _).alloc (by simp) _⟩
    · exact indexAny_short a0 w (by omega)
  · rw [if_neg h0] at h; cases h
end Go.Proofs.YtnepacpbpbbbhaaDoor.G
