import Derived.Test.YtbpbniemjjhecaaGreatProg
import Derived.Below
import Derived.WalkKit
import Derived.KernelRfl
import Derived.Laws.ShiftsVarLaws
import Derived.Laws.BitsLemmas
import Derived.Laws.Bits64
import Derived.Lib.Hide
import Derived.Outline
import Derived.RegionTactic
import Derived.BigRegion
import Derived.ChangeAlike
import Derived.Deep.Draws
import Derived.Deep.QuietTactic
import Derived.BigQuiet
import Derived.Test.YtbpbniemjjhecaaGreatZWSized
import Derived.WalkSmall
import Derived.Laws.Rows
import Derived.Laws.Tables
import Derived.Laws.CopyOwn
namespace Go.Proofs.YtbpbniemjjhecaaGreat.G
open Go.RowKit Go.Proofs.YtbpbniemjjhecaaGreatW.PrintWords
theorem drop_at0 (s : ByteArray) (p : Nat) (h : p < s.size) : s.data.toList.drop p = s[p] :: s.data.toList.drop (p + 1) := by
 rw [List.drop_eq_getElem_cons (by simpa using h)]; rfl
def bitAt (c : UInt8) : Int := IntKind.u64.wrap (2 ^ (c.toNat % 64))
def ofBits : List UInt8 → Int → Int → Int → Int → Int × Int × Int × Int
 | [], z0, z1, z2, z3 => (z0, z1, z2, z3)
 | c :: l, z0, z1, z2, z3 =>
  if c.toNat / 64 = 0 then ofBits l (Go.bits .or .u64 z0 (bitAt c)) z1 z2 z3
  else if c.toNat / 64 = 1 then ofBits l z0 (Go.bits .or .u64 z1 (bitAt c)) z2 z3
  else if c.toNat / 64 = 2 then ofBits l z0 z1 (Go.bits .or .u64 z2 (bitAt c)) z3
  else ofBits l z0 z1 z2 (Go.bits .or .u64 z3 (bitAt c))
def four (r : Int × Int × Int × Int) : Value := .agg #[.int .u64 r.1, .int .u64 r.2.1, .int .u64 r.2.2.1, .int .u64 r.2.2.2]
def wOf (w : World) (q : Nat) (z0 z1 z2 z3 : Int) : World := ((w.alloc (.cells #[.int .u64 0, .int .u64 0, .int .u64 0, .int .u64 0] 139)).alloc (.cells #[.int .u64 z0, .int .u64 z1, .int .u64 z2, .int .u64 z3] 139)).drewN q
theorem wOf_set (w : World) (q : Nat) (z0 z1 z2 z3 x : Int) (i : Nat) : (wOf w q z0 z1 z2 z3).setCell ⟨w.heap.size + 1, i, none⟩ (.int .u64 x) =
  if i = 0 then wOf w q x z1 z2 z3 else if i = 1 then wOf w q z0 x z2 z3 else if i = 2 then wOf w q z0 z1 x z3 else if i = 3 then wOf w q z0 z1 z2 x else wOf w q z0 z1 z2 z3 := by
 have h : ∀ v, (wOf w q z0 z1 z2 z3).setCell ⟨w.heap.size + 1, i, none⟩ v = (((w.alloc (.cells #[.int .u64 0, .int .u64 0, .int .u64 0, .int .u64 0] 139)).alloc (.cells (#[.int .u64 z0, .int .u64 z1, .int .u64 z2, .int .u64 z3].setIfInBounds i v) 139)).drewN q) := by
  intro v
  rw [← World.setCell_alloc_at _ _ (w.heap.size + 1) i v (by simp)]
  rfl
 rw [h]
 unfold wOf
 rcases i with _ | _ | _ | _ | i
 ·
  rfl
 ·
  rfl
 ·
  rfl
 ·
  rfl
 ·
  rw [if_neg (by omega), if_neg (by omega), if_neg (by omega), if_neg (by omega)]
  congr 3
set_option maxHeartbeats 1600000 in
set_option maxRecDepth 100000 in
theorem chars_of.calls (a0 : ByteArray) (hsz : a0.size ≤ 140737488351232) (w : World) :
  Calls Tryz.prog 123 #[.string a0] w fun e w' => e = .returned (four (ofBits a0.data.toList 0 0 0 0)) ∧ Below w.heap.size w w' := by
 generalize hR : ofBits a0.data.toList 0 0 0 0 = R
 have HR := Lib.hid hR
 clear hR
 go_enter Tryz.func123, Tryz.ntmps123
 go_wp2
 go_loopw [7] (fun i wr => ∃ (k q : Nat) (z0 z1 z2 z3 : Int), k ≤ a0.size ∧ i = .int .i64 k ∧ Hid (ofBits (a0.data.toList.drop k) z0 z1 z2 z3 = R) ∧ wr = wOf w q z0 z1 z2 z3)
  (fun i _ => a0.size - (intOf i).toNat)
 case atStart => exact ⟨0, 0, 0, 0, 0, 0, by omega, rfl, HR, rfl⟩
 case round =>
  obtain ⟨k, q, z0, z1, z2, z3, hk, rfl, HB, rfl⟩ := hrel
  by_cases hlt : k < a0.size
  ·
   have hb := a0[k].toNat_lt
   have hn : 0 ≤ (k : Int) := by omega
   have hn2 : (k : Int) < (a0.size : Int) := by omega
   have HD := Lib.hid (drop_at0 a0 k hlt)
   have hs := wOf_set w
   rcases (by omega : a0[k].toNat / 64 = 0 ∨ a0[k].toNat / 64 = 1 ∨ a0[k].toNat / 64 = 2 ∨ a0[k].toNat / 64 = 3) with h0 | h0 | h0 | h0
   ·
    have HB2 : Hid (ofBits (a0.data.toList.drop (k + 1)) (Go.bits .or .u64 z0 (bitAt a0[k])) z1 z2 z3 = R) := by
     have h := HB.out
     rw [HD.out, ofBits, if_pos h0] at h
     exact Lib.hid h
    unfold wOf
    go_wp2
    go_region
    all_goals go_wp2
    refine ⟨⟨k + 1, q + 1, _, _, _, _, by omega, by go_num, HB2, ?_⟩, by simp [intOf]; omega⟩
    exact (hs (q + 1) z0 z1 z2 z3 _ 0).trans (if_pos rfl)
   ·
    have HB2 : Hid (ofBits (a0.data.toList.drop (k + 1)) z0 (Go.bits .or .u64 z1 (bitAt a0[k])) z2 z3 = R) := by
     have h := HB.out
     rw [HD.out, ofBits, if_neg (by omega), if_pos h0] at h
     exact Lib.hid h
    unfold wOf
    go_wp2
    go_region
    all_goals go_wp2
    refine ⟨⟨k + 1, q + 1, _, _, _, _, by omega, by go_num, HB2, ?_⟩, by simp [intOf]; omega⟩
    exact (hs (q + 1) z0 z1 z2 z3 _ 1).trans rfl
   ·
    have HB2 : Hid (ofBits (a0.data.toList.drop (k + 1)) z0 z1 (Go.bits .or .u64 z2 (bitAt a0[k])) z3 = R) := by
     have h := HB.out
     rw [HD.out, ofBits, if_neg (by omega), if_neg (by omega), if_pos h0] at h
     exact Lib.hid h
    unfold wOf
    go_wp2
    go_region
    all_goals go_wp2
    refine ⟨⟨k + 1, q + 1, _, _, _, _, by omega, by go_num, HB2, ?_⟩, by simp [intOf]; omega⟩
    exact (hs (q + 1) z0 z1 z2 z3 _ 2).trans rfl
   ·
    have HB2 : Hid (ofBits (a0.data.toList.drop (k + 1)) z0 z1 z2 (Go.bits .or .u64 z3 (bitAt a0[k])) = R) := by
     have h := HB.out
     rw [HD.out, ofBits, if_neg (by omega), if_neg (by omega), if_neg (by omega)] at h
     exact Lib.hid h
    unfold wOf
    go_wp2
    go_region
    all_goals go_wp2
    refine ⟨⟨k + 1, q + 1, _, _, _, _, by omega, by go_num, HB2, ?_⟩, by simp [intOf]; omega⟩
    exact (hs (q + 1) z0 z1 z2 z3 _ 3).trans rfl
  ·
   have h := HB.out
   rw [List.drop_of_length_le (by simpa using hlt), ofBits] at h
   subst h
   unfold wOf
   go_wp2
   refine bodyPost_ret (v := four (z0, z1, z2, z3)) (by simp [results, Tryz.results123, go_sem, four]) rfl ?_
   exact ⟨rfl, (((((below_drewN (((Below.refl _ _).alloc (Nat.le_refl _) _).alloc (by simp) _) q).setCell (by exact Nat.le_refl _) _).setCell (by exact Nat.le_refl _) _).setCell (by exact Nat.le_refl _) _).setCell (by exact Nat.le_refl _) _)⟩
theorem of_lower : ofBits (⟨#[97, 98, 99, 100, 101, 102, 103, 104, 105, 106, 107, 108, 109, 110, 111, 112, 113, 114, 115, 116, 117, 118, 119, 120, 121, 122]⟩ : ByteArray).data.toList 0 0 0 0 = (0, 576460743713488896, 0, 0) := by decide +kernel
theorem of_upper : ofBits (⟨#[65, 66, 67, 68, 69, 70, 71, 72, 73, 74, 75, 76, 77, 78, 79, 80, 81, 82, 83, 84, 85, 86, 87, 88, 89, 90]⟩ : ByteArray).data.toList 0 0 0 0 = (0, 134217726, 0, 0) := by decide +kernel
theorem of_digit : ofBits (⟨#[48, 49, 50, 51, 52, 53, 54, 55, 56, 57]⟩ : ByteArray).data.toList 0 0 0 0 = (287948901175001088, 0, 0, 0) := by decide +kernel
theorem of_mark : ofBits (⟨#[46, 44, 59, 58, 33, 63, 39, 34, 45, 40, 41, 47]⟩ : ByteArray).data.toList 0 0 0 0 = (10088330922161078272, 0, 0, 0) := by decide +kernel
theorem of_space : ofBits (⟨#[32]⟩ : ByteArray).data.toList 0 0 0 0 = (4294967296, 0, 0, 0) := by decide +kernel
theorem of_line : ofBits (⟨#[10]⟩ : ByteArray).data.toList 0 0 0 0 = (1024, 0, 0, 0) := by decide +kernel
def classCells : Array Value := #[.int .u64 0, .int .u64 0, .int .u64 0, .int .u64 0, .int .u64 0, .int .u64 576460743713488896, .int .u64 0, .int .u64 0, .int .u64 0, .int .u64 134217726, .int .u64 0, .int .u64 0, .int .u64 287948901175001088, .int .u64 0, .int .u64 0, .int .u64 0, .int .u64 10088330922161078272, .int .u64 0, .int .u64 0, .int .u64 0, .int .u64 4294967296, .int .u64 0, .int .u64 0, .int .u64 0, .int .u64 1024, .int .u64 0, .int .u64 0, .int .u64 0]
theorem chars_Marks.calls (w : World) : Calls Tryz.prog 124 #[] w fun e w' => e = .returned (.string ⟨#[46, 44, 59, 58, 33, 63, 39, 34, 45, 40, 41, 47]⟩) ∧ w' = w := by
 go_enter Tryz.func124, Tryz.ntmps124
 go_wp2
 go_ret
 exact ⟨rfl, rfl⟩
theorem chars_of.at (s : ByteArray) (z0 z1 z2 z3 : Int) (h : ofBits s.data.toList 0 0 0 0 = (z0, z1, z2, z3)) (hs : s.size ≤ 1000) (w : World) :
  Calls Tryz.prog 123 #[.string s] w fun e w' => e = .returned (.agg #[.int .u64 z0, .int .u64 z1, .int .u64 z2, .int .u64 z3]) ∧ Below w.heap.size w w' := by
 have := chars_of.calls s (by omega) w
 rw [h] at this
 exact this
set_option maxHeartbeats 1600000 in
set_option maxRecDepth 100000 in
theorem chars_classes.calls (w : World) : Calls Tryz.prog 101 #[] w fun e w' => e = .returned (.agg classCells) ∧ Below w.heap.size w w' := by
 have h1 := fun w => chars_of.at _ _ _ _ _ of_lower (by decide) w
 have h2 := fun w => chars_of.at _ _ _ _ _ of_upper (by decide) w
 have h3 := fun w => chars_of.at _ _ _ _ _ of_digit (by decide) w
 have h4 := fun w => chars_of.at _ _ _ _ _ of_mark (by decide) w
 have h5 := fun w => chars_of.at _ _ _ _ _ of_space (by decide) w
 have h6 := fun w => chars_of.at _ _ _ _ _ of_line (by decide) w
 go_enter Tryz.func101, Tryz.ntmps101
 have hO := heap_alloc_new w (.cells (Array.replicate 28 (.int .u64 0)) 140)
 have bO : Below w.heap.size w (w.alloc (.cells (Array.replicate 28 (.int .u64 0)) 140)) := (Below.refl _ _).alloc (Nat.le_refl _) _
 go_wp2_with fail
 go_at_call 123
 refine (h1 _).mono ?_
 rintro e w0 ⟨rfl, b0⟩
 go_wp2_with fail
 go_at_call 123
 refine (h2 _).mono ?_
 rintro e w1 ⟨rfl, b1⟩
 go_wp2_with fail
 go_at_call 123
 refine (h3 _).mono ?_
 rintro e w2 ⟨rfl, b2⟩
 go_wp2_with fail
 go_at_call 124
 refine (chars_Marks.calls _).mono ?_
 rintro e w3 ⟨rfl, rfl⟩
 go_wp2_with fail
 go_at_call 123
 refine (h4 _).mono ?_
 rintro e w4 ⟨rfl, b4⟩
 go_wp2_with fail
 go_at_call 123
 refine (h5 _).mono ?_
 rintro e w5 ⟨rfl, b5⟩
 go_wp2_with fail
 go_at_call 123
 refine (h6 _).mono ?_
 rintro e w6 ⟨rfl, b6⟩
 have G1 := bSp b0 b1
 have G2 := bSp G1 b2
 have G4 := bSp G2 b4
 have G5 := bSp G4 b5
 have G6 := bSp G5 b6
 have hg := (G6.block w.heap.size (by simp)).trans hO
 go_wp2_with (refine wpList_store_row ?h1 140 (.tmp 0) (.tmp 8) ?h2 w.heap.size classCells ?h3 ?h4 140 (Array.replicate 28 (.int .u64 0)) hg ?h5 ?h6 ?h7 ?_; (case h1 => rfl); (case h2 => rfl); (case h3 => rfl); (case h4 => rfl); (case h5 => kernel_rfl); (case h6 => rfl); (case h7 => kernel_rfl))
 refine bodyPost_ret (v := .agg classCells) ?_ rfl ?_
 ·
  exact results_cell_row Tryz.results101 _ _ w.heap.size _ classCells (0, 0) _ rfl (setRow_heap _ _ _ _ _ _ hg) Tryz.underlying140 rfl (by kernel_rfl)
 exact ⟨rfl, below_setRow (bSp bO G6) (Nat.le_refl _) _⟩
def hasF (z0 z1 z2 z3 : Int) (c : Int) : Bool := Go.bits .and .u64 ((if c / 64 = 0 then z0 else if c / 64 = 1 then z1 else if c / 64 = 2 then z2 else z3) / 2 ^ (c % 64).toNat) 1 == 1
set_option maxHeartbeats 1600000 in
set_option maxRecDepth 100000 in
theorem chars_has.calls (z0 z1 z2 z3 : Int) (c : Int) (h0 : 0 ≤ c) (h1 : c < 256) (w : World) : Calls Tryz.prog 102 #[.agg #[.int .u64 z0, .int .u64 z1, .int .u64 z2, .int .u64 z3], .int .u8 c] w fun e w' => e = .returned (.bool (hasF z0 z1 z2 z3 c)) ∧ Below w.heap.size w w' := by
 rcases (by omega : c / 64 = 0 ∨ c / 64 = 1 ∨ c / 64 = 2 ∨ c / 64 = 3) with h | h | h | h
 all_goals
  go_enter Tryz.func102, Tryz.ntmps102
  go_wp2
  go_ret
  unfold hasF
  rw [h]
  exact ⟨rfl, (Below.refl _ _).alloc (Nat.le_refl _) _⟩
def classN (c : Int) : Int := if 97 ≤ c ∧ c ≤ 122 then 1 else if 65 ≤ c ∧ c ≤ 90 then 2 else if 48 ≤ c ∧ c ≤ 57 then 3 else if c = 32 then 5 else if c = 10 then 6 else if c = 46 ∨ c = 44 ∨ c = 59 ∨ c = 58 ∨ c = 33 ∨ c = 63 ∨ c = 39 ∨ c = 34 ∨ c = 45 ∨ c = 40 ∨ c = 41 ∨ c = 47 then 4 else 0
def inSet (i : Nat) (c : Int) : Bool := match i with
 | 0 => hasF 0 0 0 0 c
 | 1 => hasF 0 576460743713488896 0 0 c
 | 2 => hasF 0 134217726 0 0 c
 | 3 => hasF 287948901175001088 0 0 0 c
 | 4 => hasF 10088330922161078272 0 0 0 c
 | 5 => hasF 4294967296 0 0 0 c
 | _ => hasF 1024 0 0 0 c
def fromClass (c : Int) : Nat → Nat → Int
 | 0, _ => 0
 | n + 1, i => if inSet i c = true then i else fromClass c n (i + 1)
theorem class_all : ∀ c : Fin 256, fromClass (c.val : Int) 7 0 = classN (c.val : Int) := by decide +kernel
set_option maxHeartbeats 1600000 in
set_option maxRecDepth 100000 in
theorem chars_Class.any (c : Int) (h0 : 0 ≤ c) (h1 : c < 256) (w : World) : Calls Tryz.prog 62 #[.int .u8 c] w fun e w' => e = .returned (.int .i64 (classN c)) ∧ Below w.heap.size w w' := by
 have HC : Hid (fromClass c 7 0 = classN c) := by
  have h := class_all ⟨c.toNat, by omega⟩
  simp only [show ((c.toNat : Nat) : Int) = c from by omega] at h
  exact Lib.hid h
 have hh := fun z0 z1 z2 z3 w => chars_has.calls z0 z1 z2 z3 c h0 h1 w
 have i0 : ∀ w, (Instr.index 140 (.agg classCells) (.int .i64 0)).run Tryz.prog w = .ok (.agg #[.int .u64 0, .int .u64 0, .int .u64 0, .int .u64 0]) w := fun _ => by kernel_rfl
 have i1 : ∀ w, (Instr.index 140 (.agg classCells) (.int .i64 1)).run Tryz.prog w = .ok (.agg #[.int .u64 0, .int .u64 576460743713488896, .int .u64 0, .int .u64 0]) w := fun _ => by kernel_rfl
 have i2 : ∀ w, (Instr.index 140 (.agg classCells) (.int .i64 2)).run Tryz.prog w = .ok (.agg #[.int .u64 0, .int .u64 134217726, .int .u64 0, .int .u64 0]) w := fun _ => by kernel_rfl
 have i3 : ∀ w, (Instr.index 140 (.agg classCells) (.int .i64 3)).run Tryz.prog w = .ok (.agg #[.int .u64 287948901175001088, .int .u64 0, .int .u64 0, .int .u64 0]) w := fun _ => by kernel_rfl
 have i4 : ∀ w, (Instr.index 140 (.agg classCells) (.int .i64 4)).run Tryz.prog w = .ok (.agg #[.int .u64 10088330922161078272, .int .u64 0, .int .u64 0, .int .u64 0]) w := fun _ => by kernel_rfl
 have i5 : ∀ w, (Instr.index 140 (.agg classCells) (.int .i64 5)).run Tryz.prog w = .ok (.agg #[.int .u64 4294967296, .int .u64 0, .int .u64 0, .int .u64 0]) w := fun _ => by kernel_rfl
 have i6 : ∀ w, (Instr.index 140 (.agg classCells) (.int .i64 6)).run Tryz.prog w = .ok (.agg #[.int .u64 1024, .int .u64 0, .int .u64 0, .int .u64 0]) w := fun _ => by kernel_rfl
 go_enter Tryz.func62, Tryz.ntmps62
 go_wp2_with fail
 go_at_call 101
 refine (chars_classes.calls _).mono ?_
 rintro e w1 ⟨rfl, b1⟩
 go_wp2
 go_loopw [6] (fun i wr => ∃ k : Nat, k ≤ 7 ∧ i = .int .i64 k ∧ Hid (fromClass c (7 - k) k = classN c) ∧ Below w.heap.size w wr) (fun i _ => 7 - (intOf i).toNat)
 case atStart => exact ⟨0, by omega, rfl, HC, b1⟩
 case round =>
  obtain ⟨k, hk, rfl, HF, hB⟩ := hrel
  by_cases hlt : k < 7
  ·
   rcases (by omega : k = 0 ∨ k = 1 ∨ k = 2 ∨ k = 3 ∨ k = 4 ∨ k = 5 ∨ k = 6) with rfl | rfl | rfl | rfl | rfl | rfl | rfl
   ·
    go_wp2_with fail
    go_at_call 102
    refine (hh _ _ _ _ _).mono ?_
    rintro e w2 ⟨rfl, b2⟩
    have hB2 := below_then (hB.alloc hB.size _) (Nat.le_trans hB.size (by simp)) b2
    cases hi : hasF 0 0 0 0 c with
    | true =>
     go_wp2
     go_ret
     have h := HF.out
     rw [show (7 - 0 : Nat) = 6 + 1 from rfl, fromClass, if_pos (show inSet 0 c = true from hi)] at h
     exact ⟨by rw [← h]; rfl, hB2⟩
    | false =>
     go_wp2
     go_roundw
     case rel => exact ⟨1, by omega, rfl, by have h := HF.out; rw [show (7 - 0 : Nat) = 6 + 1 from rfl, fromClass, if_neg (show ¬ inSet 0 c = true from by rw [show inSet 0 c = false from hi]; decide)] at h; exact Lib.hid h, hB2⟩
     case measure => simp [intOf]
   ·
    go_wp2_with fail
    go_at_call 102
    refine (hh _ _ _ _ _).mono ?_
    rintro e w2 ⟨rfl, b2⟩
    have hB2 := below_then (hB.alloc hB.size _) (Nat.le_trans hB.size (by simp)) b2
    cases hi : hasF 0 576460743713488896 0 0 c with
    | true =>
     go_wp2
     go_ret
     have h := HF.out
     rw [show (7 - 1 : Nat) = 5 + 1 from rfl, fromClass, if_pos (show inSet 1 c = true from hi)] at h
     exact ⟨by rw [← h]; rfl, hB2⟩
    | false =>
     go_wp2
     go_roundw
     case rel => exact ⟨2, by omega, rfl, by have h := HF.out; rw [show (7 - 1 : Nat) = 5 + 1 from rfl, fromClass, if_neg (show ¬ inSet 1 c = true from by rw [show inSet 1 c = false from hi]; decide)] at h; exact Lib.hid h, hB2⟩
     case measure => simp [intOf]
   ·
    go_wp2_with fail
    go_at_call 102
    refine (hh _ _ _ _ _).mono ?_
    rintro e w2 ⟨rfl, b2⟩
    have hB2 := below_then (hB.alloc hB.size _) (Nat.le_trans hB.size (by simp)) b2
    cases hi : hasF 0 134217726 0 0 c with
    | true =>
     go_wp2
     go_ret
     have h := HF.out
     rw [show (7 - 2 : Nat) = 4 + 1 from rfl, fromClass, if_pos (show inSet 2 c = true from hi)] at h
     exact ⟨by rw [← h]; rfl, hB2⟩
    | false =>
     go_wp2
     go_roundw
     case rel => exact ⟨3, by omega, rfl, by have h := HF.out; rw [show (7 - 2 : Nat) = 4 + 1 from rfl, fromClass, if_neg (show ¬ inSet 2 c = true from by rw [show inSet 2 c = false from hi]; decide)] at h; exact Lib.hid h, hB2⟩
     case measure => simp [intOf]
   ·
    go_wp2_with fail
    go_at_call 102
    refine (hh _ _ _ _ _).mono ?_
    rintro e w2 ⟨rfl, b2⟩
    have hB2 := below_then (hB.alloc hB.size _) (Nat.le_trans hB.size (by simp)) b2
    cases hi : hasF 287948901175001088 0 0 0 c with
    | true =>
     go_wp2
     go_ret
     have h := HF.out
     rw [show (7 - 3 : Nat) = 3 + 1 from rfl, fromClass, if_pos (show inSet 3 c = true from hi)] at h
     exact ⟨by rw [← h]; rfl, hB2⟩
    | false =>
     go_wp2
     go_roundw
     case rel => exact ⟨4, by omega, rfl, by have h := HF.out; rw [show (7 - 3 : Nat) = 3 + 1 from rfl, fromClass, if_neg (show ¬ inSet 3 c = true from by rw [show inSet 3 c = false from hi]; decide)] at h; exact Lib.hid h, hB2⟩
     case measure => simp [intOf]
   ·
    go_wp2_with fail
    go_at_call 102
    refine (hh _ _ _ _ _).mono ?_
    rintro e w2 ⟨rfl, b2⟩
    have hB2 := below_then (hB.alloc hB.size _) (Nat.le_trans hB.size (by simp)) b2
    cases hi : hasF 10088330922161078272 0 0 0 c with
    | true =>
     go_wp2
     go_ret
     have h := HF.out
     rw [show (7 - 4 : Nat) = 2 + 1 from rfl, fromClass, if_pos (show inSet 4 c = true from hi)] at h
     exact ⟨by rw [← h]; rfl, hB2⟩
    | false =>
     go_wp2
     go_roundw
     case rel => exact ⟨5, by omega, rfl, by have h := HF.out; rw [show (7 - 4 : Nat) = 2 + 1 from rfl, fromClass, if_neg (show ¬ inSet 4 c = true from by rw [show inSet 4 c = false from hi]; decide)] at h; exact Lib.hid h, hB2⟩
     case measure => simp [intOf]
   ·
    go_wp2_with fail
    go_at_call 102
    refine (hh _ _ _ _ _).mono ?_
    rintro e w2 ⟨rfl, b2⟩
    have hB2 := below_then (hB.alloc hB.size _) (Nat.le_trans hB.size (by simp)) b2
    cases hi : hasF 4294967296 0 0 0 c with
    | true =>
     go_wp2
     go_ret
     have h := HF.out
     rw [show (7 - 5 : Nat) = 1 + 1 from rfl, fromClass, if_pos (show inSet 5 c = true from hi)] at h
     exact ⟨by rw [← h]; rfl, hB2⟩
    | false =>
     go_wp2
     go_roundw
     case rel => exact ⟨6, by omega, rfl, by have h := HF.out; rw [show (7 - 5 : Nat) = 1 + 1 from rfl, fromClass, if_neg (show ¬ inSet 5 c = true from by rw [show inSet 5 c = false from hi]; decide)] at h; exact Lib.hid h, hB2⟩
     case measure => simp [intOf]
   ·
    go_wp2_with fail
    go_at_call 102
    refine (hh _ _ _ _ _).mono ?_
    rintro e w2 ⟨rfl, b2⟩
    have hB2 := below_then (hB.alloc hB.size _) (Nat.le_trans hB.size (by simp)) b2
    cases hi : hasF 1024 0 0 0 c with
    | true =>
     go_wp2
     go_ret
     have h := HF.out
     rw [show (7 - 6 : Nat) = 0 + 1 from rfl, fromClass, if_pos (show inSet 6 c = true from hi)] at h
     exact ⟨by rw [← h]; rfl, hB2⟩
    | false =>
     go_wp2
     go_roundw
     case rel => exact ⟨7, by omega, rfl, by have h := HF.out; rw [show (7 - 6 : Nat) = 0 + 1 from rfl, fromClass, if_neg (show ¬ inSet 6 c = true from by rw [show inSet 6 c = false from hi]; decide)] at h; exact Lib.hid h, hB2⟩
     case measure => simp [intOf]
  ·
   obtain rfl : k = 7 := by omega
   go_wp2
   go_ret
   have h := HF.out
   exact ⟨by rw [← h]; rfl, hB⟩
def chars_Class.f (a0 : Int) : Option Int := if 0 ≤ a0 then (if a0 ≤ 255 then some (classN a0) else none) else none
theorem chars_Class.calls (a0 : Int) (r : Int) (w : World) (h : chars_Class.f a0 = some r) :
  Calls Tryz.prog 62 #[.int .u8 a0] w fun e w' => e = .returned (.int .i64 r) ∧ Below w.heap.size w w' := by
 unfold chars_Class.f at h
 by_cases h0 : 0 ≤ a0
 ·
  rw [if_pos h0] at h
  by_cases h1 : a0 ≤ 255
  ·
   rw [if_pos h1] at h
   obtain rfl := Option.some.inj h
   exact chars_Class.any a0 h0 (by omega) w
  ·
   rw [if_neg h1] at h; cases h
 ·
  rw [if_neg h0] at h; cases h
end Go.Proofs.YtbpbniemjjhecaaGreat.G
