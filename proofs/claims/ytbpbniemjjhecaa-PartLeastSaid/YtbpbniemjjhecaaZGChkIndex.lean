import Derived.Test.YtbpbniemjjhecaaZPChk10
import Derived.Test.YtbpbniemjjhecaaZPChk8
namespace Go.Proofs.Ytbpbniemjjhecaa.G
open Go.RowKit Go.Shelf Go.Proofs.Ytbpbniemjjhecaa.PChk Go.Proofs.YtbpbniemjjhecaaW.PrintWords Go.Proofs.YtbpbniemjjhecaaW.PrintLast Go.Proofs.YtbpbniemjjhecaaW.PrintMore
abbrev Rl := S33
def cellsOf (x : Rl) : Array Value := #[.int .i64 x.f0, .string x.f1, .string x.f2, .int .i64 x.f3, .int .i64 x.f4]
def idxF (p : Rl → Bool) : List Rl → Int → Int
 | [], _ => -1
 | x :: l, i => if p x = true then i else idxF p l (i + 1)
theorem idxF_any (p : Rl → Bool) : ∀ (l : List Rl) (i : Int), 0 ≤ i → decide (idxF p l i ≥ 0) = l.any p
 | [], i, _ => rfl
 | x :: l, i, h => by
  rw [idxF, List.any_cons]
  cases hx : p x with
  | true => rw [if_pos rfl, decide_eq_true h]; rfl
  | false => rw [if_neg (by decide), idxF_any p l (i + 1) (by omega)]; rfl
set_option maxHeartbeats 800000 in
set_option maxRecDepth 100000 in
theorem index_func (g : Nat) (lb : Array Value) (eg : Enters Try.prog g) (p : Rl → Bool) (A0 : Option Addr) (c0 : Nat) (l0 : List Rl) (w : World) (hr0 : Kd.C k33 w A0 l0.length l0) (hl : l0.length ≤ 140737488351232)
  (hp : ∀ x ∈ l0, ∀ W, Below w.heap.size w W → Calls Try.prog g (#[.agg (cellsOf x)] ++ lb) W fun e W' => e = .returned (.bool (p x)) ∧ Below W.heap.size W W') :
  Calls Try.prog 63 #[.slice A0 l0.length c0, .func (.func g) #[] lb] w fun e w' => e = .returned (.int .i64 (idxF p l0 0)) ∧ Below w.heap.size w w' := by
 have HP := Lib.hid hp
 have HR := Lib.hid hr0
 clear hp hr0
 unfold Enters at eg
 go_enter Try.func63, Try.ntmps63
 go_wp2
 go_loopw [8] (fun i wr => ∃ x : Int, i = .int .i64 x ∧ 0 ≤ x ∧ x ≤ l0.length ∧ Hid (idxF p (l0.drop x.toNat) x = idxF p l0 0) ∧ Below w.heap.size w wr) (fun i _ => l0.length - (intOf i).toNat)
 case atStart => exact ⟨0, rfl, Int.le_refl _, by omega, Lib.hid rfl, Below.refl _ _⟩
 case round =>
  obtain ⟨x, rfl, hx0, hx1, HI, HB⟩ := hrel
  by_cases hlt : x < (l0.length : Int)
  ·
   obtain ⟨y, hy⟩ : ∃ y, l0[x.toNat]? = some y := ⟨l0[x.toNat]'(by omega), List.getElem?_eq_getElem _⟩
   have hrd : rd_T33 l0 x = y := by simp [rd_T33, hy]
   have HD := Lib.hid (show l0.drop x.toNat = y :: l0.drop (x + 1).toNat from by
    rw [show (x + 1).toNat = x.toNat + 1 from by omega]
    obtain ⟨h1, h2⟩ := List.getElem?_eq_some_iff.1 hy
    rw [← h2]
    exact List.drop_eq_getElem_cons h1)
   obtain ⟨ad, e, g0, g1, g2, g3, g4⟩ := at_T33 HR.out x hx0 hlt
   rw [hrd] at g0 g1 g2 g3 g4
   cases e
   replace g0 := (HB.cell (World.block_lt_of_cell? w _ g0)).trans g0
   replace g1 := (HB.cell (World.block_lt_of_cell? w _ g1)).trans g1
   replace g2 := (HB.cell (World.block_lt_of_cell? w _ g2)).trans g2
   replace g3 := (HB.cell (World.block_lt_of_cell? w _ g3)).trans g3
   replace g4 := (HB.cell (World.block_lt_of_cell? w _ g4)).trans g4
   have hq := HP.out y (List.mem_of_getElem? hy) wr HB
   unfold cellsOf at hq
   have hm1 : x + 1 ≤ (l0.length : Int) := by omega
   have hwr : wrap64 (x + 1) = x + 1 := by unfold wrap64; omega
   clear hrd hy
   go_wp2_with fail
   refine hq.mono ?_
   rintro e w2 ⟨rfl, b2⟩
   have hB2 := below_then HB HB.size b2
   cases hpy : p y with
   | true =>
    go_wp2
    go_ret
    have h := HI.out
    rw [HD.out, idxF, if_pos hpy] at h
    exact ⟨by rw [← h]; rfl, hB2⟩
   | false =>
    go_wp2
    go_roundw
    case rel => exact ⟨x + 1, by first | rfl | (rw [hwr]), by omega, hm1, Lib.hid (by have h := HI.out; rw [HD.out, idxF, if_neg (by rw [hpy]; decide)] at h; exact h), hB2⟩
    case measure => simp [intOf]; omega
  ·
   have hd : l0.drop x.toNat = [] := List.drop_of_length_le (by omega)
   have h := HI.out
   rw [hd, idxF] at h
   go_wp2
   go_ret
   exact ⟨by rw [← h]; rfl, HB⟩
set_option maxHeartbeats 800000 in
theorem contains_func (g : Nat) (lb : Array Value) (eg : Enters Try.prog g) (p : Rl → Bool) (A0 : Option Addr) (c0 : Nat) (l0 : List Rl) (w : World) (hr0 : Kd.C k33 w A0 l0.length l0) (hl : l0.length ≤ 140737488351232)
  (hp : ∀ x ∈ l0, ∀ W, Below w.heap.size w W → Calls Try.prog g (#[.agg (cellsOf x)] ++ lb) W fun e W' => e = .returned (.bool (p x)) ∧ Below W.heap.size W W') :
  Calls Try.prog 42 #[.slice A0 l0.length c0, .func (.func g) #[] lb] w fun e w' => e = .returned (.bool (l0.any p)) ∧ Below w.heap.size w w' := by
 have hm := index_func g lb eg p A0 c0 l0 w hr0 hl hp
 have hR := Lib.hid (idxF_any p l0 0 (Int.le_refl _))
 clear hp
 generalize idxF p l0 0 = k at hm hR
 generalize l0.any p = b at hR
 go_enter Try.func42, Try.ntmps42
 go_wp2_with fail
 go_at_call 63
 refine hm.mono ?_
 rintro e w1 ⟨rfl, b1⟩
 go_wp2
 go_ret
 exact ⟨by rw [← hR.out]; rfl, b1⟩
theorem missing_closure (x y : Rl) (B : Nat) (W : World) (hB : B < W.heap.size) (h0 : W.cell? ⟨B, 0, none⟩ = some (.int .i64 y.f0)) (h1 : W.cell? ⟨B, 1, none⟩ = some (.string y.f1)) :
  Calls Try.prog 67 (#[.agg (cellsOf x)] ++ #[.pointer (some ⟨B, 0, none⟩)]) W fun e W' => e = .returned (.bool (x.f0 == y.f0 && x.f1.toList == y.f1.toList)) ∧ Below W.heap.size W W' := by
 have hne : B ≠ W.heap.size := by omega
 show Calls Try.prog 67 #[.agg #[.int .i64 x.f0, .string x.f1, .string x.f2, .int .i64 x.f3, .int .i64 x.f4], .pointer (some ⟨B, 0, none⟩)] W _
 cases c0 : x.f0 == y.f0 with
 | true =>
  go_enter Try.func67, Try.ntmps67
  go_wp2
  go_ret
  exact ⟨rfl, (Below.refl _ _).alloc (Nat.le_refl _) _⟩
 | false =>
  go_enter Try.func67, Try.ntmps67
  go_wp2
  go_ret
  exact ⟨rfl, (Below.refl _ _).alloc (Nat.le_refl _) _⟩
end Go.Proofs.Ytbpbniemjjhecaa.G
