import Derived.Test.YtbpbniemjjhecaaZGChkMissing
namespace Go.Proofs.Ytbpbniemjjhecaa.G
open Go.RowKit Go.Shelf Go.Proofs.Ytbpbniemjjhecaa.PChk Go.Proofs.YtbpbniemjjhecaaW.PrintWords Go.Proofs.YtbpbniemjjhecaaW.PrintLast Go.Proofs.YtbpbniemjjhecaaW.PrintMore
def clashO (x y : Rl) : Option Bool := check_Clash.f 200 x.f0 x.f1 x.f2 x.f3 x.f4 y.f0 y.f1 y.f2 y.f3 y.f4
def aloneO (x : Rl) : Option Bool := check_Alone.f 200 x.f0 x.f1 x.f2 x.f3 x.f4
def tabGo (pre : List Rl) : List Rl → Option (Option Int)
 | [] => some none
 | x :: l => (aloneO x).bind fun a => if a = true then (if pre.all (fun y => (clashO x y).isSome) = true then (if pre.any (fun y => (clashO x y).getD false) = true then some (some x.f4) else tabGo (pre ++ [x]) l) else none) else some (some x.f4)
def check_Table.f (l0 : List Rl) : Option (Int × Int) := if l0.length ≤ 140737488351232 then (tabGo [] l0).bind fun r => match r with
 | some line => some (line, 6)
 | none => if 400 < l0.length then some (0, 4) else if (missGo l0 wantedL).toList.isEmpty = true then some (0, 0) else some (0, 6)
 else none
set_option maxHeartbeats 1600000 in
set_option maxRecDepth 100000 in
theorem table_closure (x y : Rl) (b : Bool) (hb : clashO x y = some b) (B : Nat) (W : World) (hB : B < W.heap.size) (h0 : W.cell? ⟨B, 0, none⟩ = some (.int .i64 x.f0)) (h1 : W.cell? ⟨B, 1, none⟩ = some (.string x.f1)) (h2 : W.cell? ⟨B, 2, none⟩ = some (.string x.f2)) (h3 : W.cell? ⟨B, 3, none⟩ = some (.int .i64 x.f3)) (h4 : W.cell? ⟨B, 4, none⟩ = some (.int .i64 x.f4)) :
  Calls Try.prog 43 (#[.agg (cellsOf y)] ++ #[.pointer (some ⟨B, 0, none⟩)]) W fun e W' => e = .returned (.bool b) ∧ Below W.heap.size W W' := by
 have hne : B ≠ W.heap.size := by omega
 show Calls Try.prog 43 #[.agg #[.int .i64 y.f0, .string y.f1, .string y.f2, .int .i64 y.f3, .int .i64 y.f4], .pointer (some ⟨B, 0, none⟩)] W _
 have hc := fun w => check_Clash.calls 200 x.f0 x.f1 x.f2 x.f3 x.f4 y.f0 y.f1 y.f2 y.f3 y.f4 b w hb
 go_enter Try.func43, Try.ntmps43
 go_wp2_with fail
 go_at_call 44
 refine (hc _).mono ?_
 rintro e w1 ⟨rfl, b1⟩
 go_wp2
 go_ret
 exact ⟨rfl, bSp (bAl (Below.refl _ _) _) b1⟩
set_option maxHeartbeats 3200000 in
set_option maxRecDepth 100000 in
theorem check_Table.calls (A0 : Option Addr) (c0 : Nat) (l0 : List Rl) (r1 r2 : Int) (w : World) (hr0 : Kd.C k33 w A0 l0.length l0) (hc0 : l0.length ≤ c0) (h : check_Table.f l0 = some (r1, r2)) :
  Calls Try.prog 14 #[.slice A0 l0.length c0] w fun e w' => e = .returned (.tuple #[.int .i64 r1, .int .i64 r2]) ∧ Below w.heap.size w w' := by
 unfold check_Table.f at h
 by_cases hl : l0.length ≤ 140737488351232
 ·
  rw [if_pos hl] at h
  replace h := Option.bind_eq_some_iff.mp h
  obtain ⟨R, hT, h⟩ := h
  have HE := Lib.hid h
  have HT := Lib.hid hT
  have HR := Lib.hid hr0
  clear h hT hr0
  have eg : Enters Try.prog 43 := enters_of Try.func43 (by kernel_rfl) rfl
  go_enter Try.func14, Try.ntmps14
  go_wp2
  go_loopw [8] (fun i wr => ∃ x : Int, i = .int .i64 x ∧ 0 ≤ x ∧ x ≤ l0.length ∧ Hid (tabGo (l0.take x.toNat) (l0.drop x.toNat) = some R) ∧ Hid (Below w.heap.size w wr)) (fun i _ => l0.length - (intOf i).toNat)
  case atStart => exact ⟨0, rfl, Int.le_refl _, by omega, by simpa using HT, Lib.hid (Below.refl _ _)⟩
  case round =>
   obtain ⟨x, rfl, hx0, hx1, HI, HB⟩ := hrel
   by_cases hlt : x < (l0.length : Int)
   ·
    obtain ⟨y, hy⟩ : ∃ y, l0[x.toNat]? = some y := ⟨l0[x.toNat]'(by omega), List.getElem?_eq_getElem _⟩
    have hrd : rd_T33 l0 x = y := by simp [rd_T33, hy]
    have hD : l0.drop x.toNat = y :: l0.drop (x + 1).toNat := by
     rw [show (x + 1).toNat = x.toNat + 1 from by omega]
     obtain ⟨h1, h2⟩ := List.getElem?_eq_some_iff.1 hy
     rw [← h2]
     exact List.drop_eq_getElem_cons h1
    have hTk : l0.take (x + 1).toNat = l0.take x.toNat ++ [y] := by
     rw [show (x + 1).toNat = x.toNat + 1 from by omega, List.take_add_one, hy]
     rfl
    have htl : (l0.take x.toNat).length = x.toNat := by rw [List.length_take]; omega
    obtain ⟨ad, e, g0, g1, g2, g3, g4⟩ := at_T33 HR.out x hx0 hlt
    rw [hrd] at g0 g1 g2 g3 g4
    cases e
    have hbb := HB.out
    replace g0 := (hbb.cell (World.block_lt_of_cell? w _ g0)).trans g0
    replace g1 := (hbb.cell (World.block_lt_of_cell? w _ g1)).trans g1
    replace g2 := (hbb.cell (World.block_lt_of_cell? w _ g2)).trans g2
    replace g3 := (hbb.cell (World.block_lt_of_cell? w _ g3)).trans g3
    replace g4 := (hbb.cell (World.block_lt_of_cell? w _ g4)).trans g4
    have hm1 : x + 1 ≤ (l0.length : Int) := by omega
    have hI := HI.out
    rw [hD, tabGo] at hI
    replace hI := Option.bind_eq_some_iff.mp hI
    obtain ⟨a, ha, hI⟩ := hI
    have hal := fun w => check_Alone.calls 200 y.f0 y.f1 y.f2 y.f3 y.f4 a w ha
    have HBx := Lib.hid (bAl hbb (.cells #[.int .i64 y.f0, .string y.f1, .string y.f2, .int .i64 y.f3, .int .i64 y.f4] 33))
    have hxn : x.toNat ≤ c0 := by omega
    have hxc : x ≤ (c0 : Int) := by omega
    clear HI hbb hrd hy hD ha
    go_wp2_with fail
    go_at_call 41
    refine (hal _).mono ?_
    rintro e w3 ⟨rfl, b3⟩
    have HB3 := Lib.hid (bSp HBx.out b3)
    have q0 : w3.cell? ⟨wr.heap.size, 0, none⟩ = some (.int .i64 y.f0) := (b3.cell (p := ⟨wr.heap.size, 0, none⟩) (by simp)).trans (by simp)
    have q1 : w3.cell? ⟨wr.heap.size, 1, none⟩ = some (.string y.f1) := (b3.cell (p := ⟨wr.heap.size, 1, none⟩) (by simp)).trans (by simp)
    have q2 : w3.cell? ⟨wr.heap.size, 2, none⟩ = some (.string y.f2) := (b3.cell (p := ⟨wr.heap.size, 2, none⟩) (by simp)).trans (by simp)
    have q3 : w3.cell? ⟨wr.heap.size, 3, none⟩ = some (.int .i64 y.f3) := (b3.cell (p := ⟨wr.heap.size, 3, none⟩) (by simp)).trans (by simp)
    have q4 : w3.cell? ⟨wr.heap.size, 4, none⟩ = some (.int .i64 y.f4) := (b3.cell (p := ⟨wr.heap.size, 4, none⟩) (by simp)).trans (by simp)
    have hlt3 : wr.heap.size < w3.heap.size := Nat.lt_of_lt_of_le (by simp) b3.size
    clear b3 g0 g1 g2 g3 g4 hal
    cases a with
    | false =>
     rw [if_neg (by decide)] at hI
     have HI := Lib.hid hI
     clear hI
     go_wp2
     go_ret2
     have h1 : R = some y.f4 := (Option.some.inj HI.out).symm
     have h2 := HE.out
     rw [h1] at h2
     simp only [Option.some.injEq, Prod.mk.injEq] at h2
     exact ⟨by rw [h2.1, h2.2]; rfl, HB3.out⟩
    | true =>
     rw [if_pos rfl] at hI
     by_cases hall : (l0.take x.toNat).all (fun z => (clashO y z).isSome) = true
     ·
      rw [if_pos hall] at hI
      have HI := Lib.hid hI
      have hcl := contains_func 43 #[.pointer (some ⟨wr.heap.size, 0, none⟩)] eg (fun z => (clashO y z).getD false) (some ad) c0 (l0.take x.toNat) w3
       (Kd.C_below (Kd.C_take HR.out (by omega)) HB3.out) (by omega) (fun z hz V hV => by
        have h1 := List.all_eq_true.1 hall z hz
        obtain ⟨b, hb⟩ := Option.isSome_iff_exists.1 h1
        have h2 := table_closure y z b hb wr.heap.size V (Nat.lt_of_lt_of_le hlt3 hV.size) ((hV.cell (p := ⟨wr.heap.size, 0, none⟩) hlt3).trans q0) ((hV.cell (p := ⟨wr.heap.size, 1, none⟩) hlt3).trans q1) ((hV.cell (p := ⟨wr.heap.size, 2, none⟩) hlt3).trans q2) ((hV.cell (p := ⟨wr.heap.size, 3, none⟩) hlt3).trans q3) ((hV.cell (p := ⟨wr.heap.size, 4, none⟩) hlt3).trans q4)
        rw [show (clashO y z).getD false = b from by rw [hb]; rfl]
        exact h2)
      rw [htl] at hcl
      clear hI hall
      generalize hbq : (l0.take x.toNat).any (fun z => (clashO y z).getD false) = bq at hcl
      have HQ := Lib.hid hbq
      clear hbq
      go_wp2_with fail
      go_at_call 42
      refine hcl.mono ?_
      rintro e w4 ⟨rfl, b4⟩
      have HB4 := Lib.hid (bSp HB3.out b4)
      have p4 : w4.cell? ⟨wr.heap.size, 4, none⟩ = some (.int .i64 y.f4) := (b4.cell (p := ⟨wr.heap.size, 4, none⟩) hlt3).trans q4
      clear b4 q0 q1 q2 q3 q4
      cases bq with
      | true =>
       have HI := Lib.hid (show some (some y.f4) = some R from by have h := HI.out; rw [if_pos HQ.out] at h; exact h)
       go_wp2
       go_ret2
       have h1 : R = some y.f4 := (Option.some.inj HI.out).symm
       have h2 := HE.out
       rw [h1] at h2
       simp only [Option.some.injEq, Prod.mk.injEq] at h2
       exact ⟨by rw [h2.1, h2.2]; rfl, HB4.out⟩
      | false =>
       have HI2 := Lib.hid (show tabGo (l0.take (x + 1).toNat) (l0.drop (x + 1).toNat) = some R from by have h := HI.out; rw [if_neg (by rw [HQ.out]; decide)] at h; rw [hTk]; exact h)
       clear HI
       go_wp2
       go_roundw
       case rel => exact ⟨x + 1, by go_num, by omega, hm1, HI2, HB4⟩
       case measure => simp [intOf]; omega
     ·
      rw [if_neg hall] at hI; cases hI
   ·
    have hd : l0.drop x.toNat = [] := List.drop_of_length_le (by omega)
    have h := HI.out
    rw [hd, tabGo] at h
    have h1 : R = none := (Option.some.inj h).symm
    have hE := HE.out
    rw [h1] at hE
    simp only at hE
    have hms := fun w' hb => check_Missing.calls A0 c0 l0 (missGo l0 wantedL) w' (Kd.C_below HR.out hb) hc0 (by rw [check_Missing.f, if_pos hl])
    clear h h1 HI HE hd
    by_cases c4 : 400 < l0.length
    ·
     rw [if_pos c4] at hE
     have HE := Lib.hid hE
     have c4b : decide ((400 : Int) < (l0.length : Int)) = true := decide_eq_true (by omega)
     clear hE
     go_wp2
     go_ret2
     have h2 := HE.out
     simp only [Option.some.injEq, Prod.mk.injEq] at h2
     exact ⟨by rw [← h2.1, ← h2.2]; rfl, HB.out⟩
    ·
     rw [if_neg c4] at hE
     have c4b : decide ((400 : Int) < (l0.length : Int)) = false := decide_eq_false (by omega)
     have HE := Lib.hid hE
     clear hE c4
     have hmw := hms wr HB.out
     clear hms
     generalize missGo l0 wantedL = m at hmw HE
     go_wp2_with fail
     go_at_call 45
     refine hmw.mono ?_
     rintro e w5 ⟨rfl, b5⟩
     have HB5 := Lib.hid (bSp HB.out b5)
     clear b5
     by_cases c5 : m.toList.isEmpty = true
     ·
      have HE2 := Lib.hid (show some ((0 : Int), (0 : Int)) = some (r1, r2) from by have h := HE.out; rw [if_pos c5] at h; exact h)
      clear HE
      go_wp2
      go_ret2
      have h2 := HE2.out
      simp only [Option.some.injEq, Prod.mk.injEq] at h2
      exact ⟨by rw [← h2.1, ← h2.2]; rfl, HB5.out⟩
     ·
      have HE2 := Lib.hid (show some ((0 : Int), (6 : Int)) = some (r1, r2) from by have h := HE.out; rw [if_neg c5] at h; exact h)
      have c5b : m.toList.isEmpty = false := by simpa using c5
      clear HE c5
      go_wp2
      go_ret2
      have h2 := HE2.out
      simp only [Option.some.injEq, Prod.mk.injEq] at h2
      exact ⟨by rw [← h2.1, ← h2.2]; rfl, HB5.out⟩
 ·
  rw [if_neg hl] at h; cases h
end Go.Proofs.Ytbpbniemjjhecaa.G
