import Derived.Test.YtbpbniemjjhecaaZGChkWanted
namespace Go.Proofs.Ytbpbniemjjhecaa.G
set_option linter.unusedVariables false
set_option linter.unusedSimpArgs false
open Go.RowKit Go.Shelf Go.Proofs.Ytbpbniemjjhecaa.PChk Go.Proofs.YtbpbniemjjhecaaW.PrintWords Go.Proofs.YtbpbniemjjhecaaW.PrintLast Go.Proofs.YtbpbniemjjhecaaW.PrintMore
def isOf (what : Int) (left : ByteArray) (x : Rl) : Bool := x.f0 == what && x.f1.toList == left.toList
def missGo (l : List Rl) : List Rl → ByteArray
 | [] => ⟨#[]⟩
 | w :: ws => if l.any (isOf w.f0 w.f1) = true then missGo l ws else w.f1
def check_Missing.f (l0 : List Rl) : Option ByteArray := if l0.length ≤ 140737488351232 then some (missGo l0 wantedL) else none
theorem wanted_len : wantedL.length = 61 := by decide +kernel
set_option maxHeartbeats 1600000 in
set_option maxRecDepth 100000 in
theorem check_Missing.calls (A0 : Option Addr) (c0 : Nat) (l0 : List Rl) (r : ByteArray) (w : World) (hr0 : Kd.C k33 w A0 l0.length l0) (hc0 : l0.length ≤ c0) (h : check_Missing.f l0 = some r) :
  Calls Try.prog 45 #[.slice A0 l0.length c0] w fun e w' => e = .returned (.string r) ∧ Below w.heap.size w w' := by
 unfold check_Missing.f at h
 by_cases hl : l0.length ≤ 140737488351232
 ·
  rw [if_pos hl] at h
  have HM := Lib.hid (Option.some.inj h)
  have HR := Lib.hid hr0
  clear h hr0 hc0
  have eg : Enters Try.prog 67 := enters_of Try.func67 (by kernel_rfl) rfl
  go_enter Try.func45, Try.ntmps45
  go_wp2_with fail
  go_at_call 66
  refine (check_wanted.calls _).mono ?_
  rintro e w1 ⟨v, rfl, hv, b1⟩
  obtain ⟨A2, c2, rfl, _, hC⟩ := Kd.R_reads hv
  have HC := Lib.hid hC
  have Hb1 := Lib.hid b1
  clear hv hC b1
  rw [wanted_len] at HC ⊢
  go_wp2
  go_loopw [7] (fun i wr => ∃ x : Int, i = .int .i64 x ∧ 0 ≤ x ∧ x ≤ 61 ∧ Hid (missGo l0 (wantedL.drop x.toNat) = r) ∧ Hid (Below w1.heap.size w1 wr)) (fun i _ => 61 - (intOf i).toNat)
  case atStart => exact ⟨0, rfl, Int.le_refl _, by omega, HM, Lib.hid (Below.refl _ _)⟩
  case round =>
   obtain ⟨x, rfl, hx0, hx1, HI, HB⟩ := hrel
   by_cases hlt : x < 61
   ·
    obtain ⟨y, hy⟩ : ∃ y, wantedL[x.toNat]? = some y := ⟨wantedL[x.toNat]'(by rw [wanted_len]; omega), List.getElem?_eq_getElem _⟩
    have hrd : rd_T33 wantedL x = y := by simp [rd_T33, hy]
    have HD := Lib.hid (show wantedL.drop x.toNat = y :: wantedL.drop (x + 1).toNat from by
     rw [show (x + 1).toNat = x.toNat + 1 from by omega]
     obtain ⟨h1, h2⟩ := List.getElem?_eq_some_iff.1 hy
     rw [← h2]
     exact List.drop_eq_getElem_cons h1)
    obtain ⟨ad, e, g0, g1, g2, g3, g4⟩ := at_T33 HC.out x hx0 hlt
    rw [hrd] at g0 g1 g2 g3 g4
    cases e
    have hbb := HB.out
    replace g0 := (hbb.cell (World.block_lt_of_cell? w1 _ g0)).trans g0
    replace g1 := (hbb.cell (World.block_lt_of_cell? w1 _ g1)).trans g1
    replace g2 := (hbb.cell (World.block_lt_of_cell? w1 _ g2)).trans g2
    replace g3 := (hbb.cell (World.block_lt_of_cell? w1 _ g3)).trans g3
    replace g4 := (hbb.cell (World.block_lt_of_cell? w1 _ g4)).trans g4
    have hm1 : x + 1 ≤ (61 : Int) := by omega
    have hBw := bSp Hb1.out hbb
    have hcl := contains_func 67 #[.pointer (some ⟨wr.heap.size, 0, none⟩)] eg (isOf y.f0 y.f1) A0 c0 l0 (wr.alloc (.cells #[.int .i64 y.f0, .string y.f1, .string y.f2, .int .i64 y.f3, .int .i64 y.f4] 33))
     (Kd.C_below HR.out (bAl hBw _)) hl (fun z _ V hV => missing_closure z y wr.heap.size V (Nat.lt_of_lt_of_le (by simp) hV.size) ((hV.cell (p := ⟨wr.heap.size, 0, none⟩) (by simp)).trans (by simp)) ((hV.cell (p := ⟨wr.heap.size, 1, none⟩) (by simp)).trans (by simp)))
    generalize hbq : l0.any (isOf y.f0 y.f1) = bq at hcl
    have HQ := Lib.hid hbq
    clear hbq hbb hBw hrd hy
    go_wp2_with fail
    refine hcl.mono ?_
    rintro e w3 ⟨rfl, b3⟩
    have hB3 := Lib.hid (bSp (bAl HB.out (.cells #[.int .i64 y.f0, .string y.f1, .string y.f2, .int .i64 y.f3, .int .i64 y.f4] 33)) b3)
    have hc1 : w3.cell? ⟨wr.heap.size, 1, none⟩ = some (.string y.f1) := (b3.cell (p := ⟨wr.heap.size, 1, none⟩) (by simp)).trans (by simp)
    clear b3 g0 g1 g2 g3 g4
    cases bq with
    | true =>
     go_wp2
     go_roundw
     case rel => exact ⟨x + 1, by go_num, by omega, hm1, Lib.hid (by have h := HI.out; rw [HD.out, missGo, if_pos HQ.out] at h; exact h), hB3⟩
     case measure => simp [intOf]; omega
    | false =>
     go_wp2
     go_ret
     have h := HI.out
     rw [HD.out, missGo, if_neg (by rw [HQ.out]; decide)] at h
     exact ⟨by rw [← h]; rfl, bSp Hb1.out hB3.out⟩
   ·
    have hd : wantedL.drop x.toNat = [] := List.drop_of_length_le (by rw [wanted_len]; omega)
    have h := HI.out
    rw [hd, missGo] at h
    go_wp2
    go_ret
    exact ⟨by rw [← h]; rfl, bSp Hb1.out HB.out⟩
 ·
  rw [if_neg hl] at h; cases h
end Go.Proofs.Ytbpbniemjjhecaa.G
