import Derived.Test.YtgjkjoocnkdckaaGreatDoorZGRulPrint
namespace Go.Proofs.YtgjkjoocnkdckaaGreatDoor.G
set_option linter.unusedVariables false
set_option linter.unusedSimpArgs false
open Go.RowKit Go.Shelf Go.Proofs.YtgjkjoocnkdckaaGreatDoor.PChk Go.Proofs.YtgjkjoocnkdckaaGreatDoorW.PrintWords Go.Proofs.YtgjkjoocnkdckaaGreatDoorW.PrintLast Go.Proofs.YtgjkjoocnkdckaaGreatDoorW.PrintMore
def cellsOf (x : Rl) : Array Value := #[.int .i64 x.f0, .string x.f1, .string x.f2, .int .i64 x.f3, .int .i64 x.f4]
def idxF (p : Rl → Bool) : List Rl → Int → Int
  | [], _ => -1
  | x :: l, i => if p x = true then i else idxF p l (i + 1)
set_option maxHeartbeats 800000 in
set_option maxRecDepth 100000 in
theorem index_func (g : Nat) (lb : Array Value) (eg : Enters Tryz.prog g) (p : Rl → Bool) (A0 : Option Addr) (c0 : Nat) (l0 : List Rl) (w : World) (hr0 : Kd.C k47 w A0 l0.length l0) (hl : l0.length ≤ 140737488351232)
    (hp : ∀ x ∈ l0, ∀ W, Below w.heap.size w W → Calls Tryz.prog g (#[.agg (cellsOf x)] ++ lb) W fun e W' => e = .returned (.bool (p x)) ∧ Below W.heap.size W W') :
    Calls Tryz.prog 86 #[.slice A0 l0.length c0, .func (.func g) #[] lb] w fun e w' => e = .returned (.int .i64 (idxF p l0 0)) ∧ Below w.heap.size w w' := by
  have HP := Lib.hid hp
  have HR := Lib.hid hr0
  clear hp hr0
  unfold Enters at eg
  go_enter Tryz.func86, Tryz.ntmps86
  go_wp2
  go_loopw [8] (fun i wr => ∃ x : Int, i = .int .i64 x ∧ 0 ≤ x ∧ x ≤ l0.length ∧ Hid (idxF p (l0.drop x.toNat) x = idxF p l0 0) ∧ Below w.heap.size w wr) (fun i _ => l0.length - (intOf i).toNat)
  case atStart => exact ⟨0, rfl, Int.le_refl _, by omega, Lib.hid rfl, Below.refl _ _⟩
  case round =>
    obtain ⟨x, rfl, hx0, hx1, HI, HB⟩ := hrel
    by_cases hlt : x < (l0.length : Int)
    · obtain ⟨y, hy⟩ : ∃ y, l0[x.toNat]? = some y := ⟨l0[x.toNat]'(by omega), List.getElem?_eq_getElem _⟩
      have hrd : rd_T47 l0 x = y := by simp [rd_T47, hy]
      have HD := Lib.hid (show l0.drop x.toNat = y :: l0.drop (x + 1).toNat from by
        rw [show (x + 1).toNat = x.toNat + 1 from by omega]
        obtain ⟨h1, h2⟩ := List.getElem?_eq_some_iff.1 hy
        rw [← h2]
        exact List.drop_eq_getElem_cons h1)
      obtain ⟨ad, e, g0, g1, g2, g3, g4⟩ := at_T47 HR.out x hx0 hlt
      rw [hrd] at g0 g1 g2 g3 g4
      cases e
      replace g0 := (HB.cell (World.block_lt_of_cell? w _ g0)).trans g0
      replace g1 := (HB.cell (World.block_lt_of_cell? w _ g1)).trans g1
      replace g2 := (HB.cell (World.block_lt_of_cell? w _ g2)).trans g2
      replace g3 := (HB.cell (World.block_lt_of_cell? w _ g3)).trans g3
      replace g4 := (HB.cell (World.block_lt_of_cell? w _ g4)).trans g4
      have hq := HP.out y (List.mem_of_getElem? hy) wr HB
      unfold cellsOf at hq
      have hm1 : x + 1 ≤ (l0.length : Int) := by omega
      have hwr : wrap64 (x + 1) = x + 1 := by unfold wrap64; omega
      clear hrd hy
      go_wp2_with fail
      refine hq.mono ?_
      rintro e w2 ⟨rfl, b2⟩
      have hB2 := below_then HB HB.size b2
      cases hpy : p y with
      | true =>
        go_wp2
        go_ret
        have h := HI.out
        rw [HD.out, idxF, if_pos hpy] at h
        exact ⟨by rw [← h]; rfl, hB2⟩
      | false =>
        go_wp2
        go_roundw
        case rel => exact ⟨x + 1, by first | rfl | (rw [hwr]), by omega, hm1, Lib.hid (by have h := HI.out; rw [HD.out, idxF, if_neg (by rw [hpy]; decide)] at h; exact h), hB2⟩
        case measure => simp [intOf]; omega
    · have hd : l0.drop x.toNat = [] := List.drop_of_length_le (by omega)
      have h := HI.out
      rw [hd, idxF] at h
      go_wp2
      go_ret
      exact ⟨by rw [← h]; rfl, HB⟩
def isOf (what : Int) (left : ByteArray) (x : Rl) : Bool := x.f0 == what && x.f1.toList == left.toList
def ofL (what : Int) (left : ByteArray) : List Rl → ByteArray
  | [] => ⟨#[]⟩
  | x :: l => if isOf what left x = true then x.f2 else ofL what left l
def rules_of.f (l0 : List Rl) (a1 : Int) (a2 : ByteArray) : Option ByteArray := if l0.length ≤ 140737488351232 then some (ofL a1 a2 l0) else none
theorem idxF_spec (what : Int) (left : ByteArray) : ∀ (l : List Rl) (i : Int), 0 ≤ i → (idxF (isOf what left) l i = -1 ∧ ofL what left l = ⟨#[]⟩) ∨ ∃ (j : Nat) (x : Rl), l[j]? = some x ∧ idxF (isOf what left) l i = i + j ∧ ofL what left l = x.f2
  | [], i, _ => .inl ⟨rfl, rfl⟩
  | x :: l, i, h => by
    rw [idxF, ofL]
    by_cases hx : isOf what left x = true
    · rw [if_pos hx, if_pos hx]
      exact .inr ⟨0, x, rfl, by simp, rfl⟩
    · rw [if_neg hx, if_neg hx]
      rcases idxF_spec what left l (i + 1) (by omega) with ⟨h1, h2⟩ | ⟨j, y, h1, h2, h3⟩
      · exact .inl ⟨h1, h2⟩
      · exact .inr ⟨j + 1, y, by simpa using h1, by rw [h2]; push_cast; omega, h3⟩
theorem of_closure (x : Rl) (what : Int) (left : ByteArray) (B1 B2 : Nat) (W : World) (hB1 : B1 < W.heap.size) (hB2 : B2 < W.heap.size) (h0 : W.cell? ⟨B1, 0, none⟩ = some (.int .i64 what)) (h1 : W.cell? ⟨B2, 0, none⟩ = some (.string left)) :
    Calls Tryz.prog 87 (#[.agg (cellsOf x)] ++ #[.pointer (some ⟨B1, 0, none⟩), .pointer (some ⟨B2, 0, none⟩)]) W fun e W' => e = .returned (.bool (isOf what left x)) ∧ Below W.heap.size W W' := by
  have hne1 : B1 ≠ W.heap.size := by omega
  have hne2 : B2 ≠ W.heap.size := by omega
  unfold isOf
  show Calls Tryz.prog 87 #[.agg #[.int .i64 x.f0, .string x.f1, .string x.f2, .int .i64 x.f3, .int .i64 x.f4], .pointer (some ⟨B1, 0, none⟩), .pointer (some ⟨B2, 0, none⟩)] W _
  cases c0 : x.f0 == what with
  | true =>
    go_enter Tryz.func87, Tryz.ntmps87
    go_wp2
    go_ret
    exact ⟨rfl, (Below.refl _ _).alloc (Nat.le_refl _) _⟩
  | false =>
    go_enter Tryz.func87, Tryz.ntmps87
    go_wp2
    go_ret
    exact ⟨rfl, (Below.refl _ _).alloc (Nat.le_refl _) _⟩
set_option maxHeartbeats 1600000 in
set_option maxRecDepth 100000 in
theorem rules_of.calls (A0 : Option Addr) (c0 : Nat) (l0 : List Rl) (a1 : Int) (a2 : ByteArray) (r : ByteArray) (w : World) (hr0 : Kd.C k47 w A0 l0.length l0) (hc0 : l0.length ≤ c0) (h : rules_of.f l0 a1 a2 = some r) :
    Calls Tryz.prog 55 #[.slice A0 l0.length c0, .int .i64 a1, .string a2] w fun e w' => e = .returned (.string r) ∧ Below w.heap.size w w' := by
  unfold rules_of.f at h
  by_cases hl : l0.length ≤ 140737488351232
  case neg => rw [if_neg hl] at h; cases h
  rw [if_pos hl] at h
  have HM := Lib.hid (Option.some.inj h)
  have HR := Lib.hid hr0
  clear h hr0 hc0
  have eg : Enters Tryz.prog 87 := enters_of Tryz.func87 (by kernel_rfl) rfl
  have hB2 : Below w.heap.size w ((w.alloc (.cells #[.int .i64 a1] 3)).alloc (.cells #[.string a2] 9)) := ((Below.refl _ _).alloc (Nat.le_refl _) _).alloc (by simp) _
  have hcl := index_func 87 #[.pointer (some ⟨w.heap.size, 0, none⟩), .pointer (some ⟨w.heap.size + 1, 0, none⟩)] eg (isOf a1 a2) A0 c0 l0 ((w.alloc (.cells #[.int .i64 a1] 3)).alloc (.cells #[.string a2] 9))
    (Kd.C_below HR.out hB2) hl (fun z _ V hV => of_closure z a1 a2 w.heap.size (w.heap.size + 1) V (Nat.lt_of_lt_of_le (by simp; omega) hV.size) (Nat.lt_of_lt_of_le (by simp) hV.size) ((hV.cell (p := ⟨w.heap.size, 0, none⟩) (by simp; omega)).trans (by rw [World.cell?_alloc_old _ _ _ (by simp)]; exact World.cell?_alloc_new (w := w) #[.int .i64 a1] 3 0)) ((hV.cell (p := ⟨w.heap.size + 1, 0, none⟩) (by simp)).trans (by
      have h := World.cell?_alloc_new (w := w.alloc (.cells #[.int .i64 a1] 3)) #[.string a2] 9 0
      rw [World.size_alloc] at h
      exact h)))
  have hsp := idxF_spec a1 a2 l0 0 (Int.le_refl _)
  generalize idxF (isOf a1 a2) l0 0 = k at hcl hsp
  rcases hsp with ⟨hk, ho⟩ | ⟨j, x, hx, hk, ho⟩
  · subst hk
    have hd : decide ((-1 : Int) < 0) = true := rfl
    go_enter Tryz.func55, Tryz.ntmps55
    go_wp2_with (go_at_call 86; refine hcl.mono ?_; rintro e w1 ⟨rfl, b1⟩)
    go_ret
    exact ⟨by rw [← HM.out, ho]; rfl, bSp hB2 b1⟩
  · have hk2 : k = (j : Int) := by omega
    subst hk2
    have hj : j < l0.length := (List.getElem?_eq_some_iff.1 hx).1
    have hd : decide ((j : Int) < 0) = false := decide_eq_false (by omega)
    have hrd : rd_T47 l0 (j : Int) = x := by simp [rd_T47, hx]
    obtain ⟨ad, e, g0, g1, g2, g3, g4⟩ := at_T47 HR.out (j : Int) (by omega) (by omega)
    rw [hrd] at g2
    simp only [Int.toNat_natCast] at g2
    cases e
    have G2 := Lib.hid g2
    clear g0 g1 g2 g3 g4 hrd hk
    have hj1 : (j : Int) < (l0.length : Int) := by omega
    go_enter Tryz.func55, Tryz.ntmps55
    go_wp2_with (go_at_call 86; refine hcl.mono ?_; rintro e w1 ⟨rfl, b1⟩; have g2 := ((bSp hB2 b1).cell (World.block_lt_of_cell? w _ G2.out)).trans G2.out)
    go_ret
    exact ⟨by rw [← HM.out, ho]; rfl, bSp hB2 b1⟩
end Go.Proofs.YtgjkjoocnkdckaaGreatDoor.G
