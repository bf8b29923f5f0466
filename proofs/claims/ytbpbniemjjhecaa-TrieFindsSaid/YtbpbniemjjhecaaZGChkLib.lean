import Derived.Test.YtbpbniemjjhecaaZGCharsCase
import Derived.Test.YtbpbniemjjhecaaZShelf
import Derived.Test.YtbpbniemjjhecaaZWSized
namespace Go.Proofs.Ytbpbniemjjhecaa.G
open Go.RowKit Go.Shelf Go.Proofs.YtbpbniemjjhecaaW.PrintWords Go.Proofs.YtbpbniemjjhecaaW.PrintLast Go.Proofs.YtbpbniemjjhecaaW.PrintMore
theorem setCell_drewN (w : World) (a : Addr) (v : Value) (n : Nat) : (w.drewN n).setCell a v = (w.setCell a v).drewN n := rfl
def strings_HasPrefix.f (a0 a1 : ByteArray) : Option Bool := some (Lib.hasPrefix a0.data.toList a1.data.toList)
theorem strings_HasPrefix.calls (a0 a1 : ByteArray) (r : Bool) (w : World) (h : strings_HasPrefix.f a0 a1 = some r) :
  Calls Try.prog 83 #[.string a0, .string a1] w fun e w' => e = .returned (.bool r) ∧ Drawn0 w w' := by
 obtain rfl := Option.some.inj h
 refine (Try.strings_HasPrefix a0 a1 w).mono ?_
 rintro e w' ⟨rfl, rfl⟩
 exact ⟨rfl, Drawn0.refl _⟩
def strings_Contains.f (a0 a1 : ByteArray) : Option Bool := match a1.data.toList with
 | [c] => some (decide (0 ≤ Lib.indexByte a0.data.toList c))
 | _ => none
theorem strings_Contains.calls (a0 a1 : ByteArray) (r : Bool) (w : World) (h : strings_Contains.f a0 a1 = some r) :
  Calls Try.prog 84 #[.string a0, .string a1] w fun e w' => e = .returned (.bool r) ∧ Drawn0 w w' := by
 unfold strings_Contains.f at h
 split at h
 ·
  rename_i c hc
  obtain rfl := Option.some.inj h
  have e1 : a1 = ⟨#[c]⟩ := ByteArray.ext (Array.toList_inj.1 hc)
  subst e1
  refine (Try.strings_Contains_one a0 c w).mono ?_
  rintro e w' ⟨rfl, rfl⟩
  exact ⟨rfl, Drawn0.refl _⟩
 ·
  cases h
def strings_Join.f (l0 : List ByteArray) (a1 : ByteArray) : Option ByteArray := if l0.length ≤ 140737488355328 ∧ (Lib.join (l0.map (·.data.toList)) a1.data.toList).length ≤ 140737488355328 then some ⟨(Lib.join (l0.map (·.data.toList)) a1.data.toList).toArray⟩ else none
theorem strings_Join.calls (A0 : Option Addr) (c0 : Nat) (l0 : List ByteArray) (a1 : ByteArray) (r : ByteArray) (w : World) (hr0 : Kd.C Kd.string w A0 l0.length l0) (hc0 : l0.length ≤ c0) (h : strings_Join.f l0 a1 = some r) :
  Calls Try.prog 96 #[.slice A0 l0.length c0, .string a1] w fun e w' => e = .returned (.string r) ∧ Below w.heap.size w w' := by
 unfold strings_Join.f at h
 by_cases hl : l0.length ≤ 140737488355328 ∧ (Lib.join (l0.map (·.data.toList)) a1.data.toList).length ≤ 140737488355328
 ·
  rw [if_pos hl] at h
  obtain rfl := Option.some.inj h
  rcases l0 with _ | ⟨x, xs⟩
  ·
   refine (Try.strings_Join_none A0 c0 a1 w).mono ?_
   rintro e w' ⟨rfl, rfl⟩
   exact ⟨rfl, Below.refl _ _⟩
  ·
   obtain ⟨hn, hm, hp⟩ := hr0
   obtain ⟨ad, rfl, hc⟩ := hp (by simp)
   have hcell : ∀ (j : Nat) y, (x :: xs)[j]? = some y → w.cell? (ad.add j) = some (.string y) := by
    intro j y hy
    obtain ⟨c, _, hk, hcc⟩ := hc j y hy
    have hk' : c = [Value.string y] := hk
    have h3 := hcc 0 (.string y) (by rw [hk']; rfl)
    have e3 : j * Kd.string.sz + 0 = j := by rw [show Kd.string.sz = 1 from rfl]; omega
    rw [e3] at h3
    exact h3
   obtain ⟨bk, o, sp⟩ := ad
   have hsp : sp = none := by
    have h3 := hcell 0 x rfl
    rcases sp with _ | z
    ·
     rfl
    ·
     exfalso
     unfold World.cell? at h3
     simp [Addr.add] at h3
     split at h3 <;> cases h3
   subst hsp
   have h0 : bk < w.heap.size := World.block_lt_of_cell? w _ (hcell 0 x rfl)
   refine (Try.strings_Join bk o c0 (x :: xs) a1 w (fun j y hy => ?_) h0 hl.1 hc0 hl.2).mono ?_
   ·
    have h3 := hcell j y hy
    have e3 : (⟨bk, o, none⟩ : Addr).add j = ⟨bk, o + j, none⟩ := by unfold Addr.add; split <;> simp_all
    rw [e3] at h3
    exact h3
   ·
    rintro e w' ⟨rfl, hb⟩
    exact ⟨rfl, hb⟩
 ·
  rw [if_neg hl] at h; cases h
end Go.Proofs.Ytbpbniemjjhecaa.G
