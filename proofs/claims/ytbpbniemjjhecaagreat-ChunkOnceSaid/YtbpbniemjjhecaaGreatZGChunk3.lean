import Derived.Test.YtbpbniemjjhecaaGreatZPCnk0
import Derived.Test.YtbpbniemjjhecaaGreatZPCnk1
import Derived.Test.YtbpbniemjjhecaaGreatZGRange
import Derived.Lib.SmallJoins
import Derived.Test.YtbpbniemjjhecaaGreatZGPart3
import Derived.Test.YtbpbniemjjhecaaGreatZPureChkAlone2
section
namespace Go.Proofs.YtbpbniemjjhecaaGreat.PChk
open Go.RowKit Go.Proofs.YtbpbniemjjhecaaGreat.G Go.Proofs.YtbpbniemjjhecaaGreat.PChk Go.Proofs.YtbpbniemjjhecaaGreatW.PrintWords Go.Proofs.YtbpbniemjjhecaaGreatW.PrintLast Go.Proofs.YtbpbniemjjhecaaGreatW.PrintMore
attribute [local go_sem] max2_int min2_int max_two min_two max_three min_three max_four min_four
set_option linter.unusedVariables false
set_option linter.unusedSimpArgs false
set_option maxHeartbeats 8000000
set_option maxRecDepth 100000
def chunk_letter.f (a0_0 : Int) (a0_1 : Int) (a0_2 : Int) : Option (Bool) := if a0_0 = 1 then ((chars_Letter.f a0_1).bind fun t127 => (some t127)) else (some false)
theorem chunk_letter.calls (a0_0 : Int) (a0_1 : Int) (a0_2 : Int) (r : Bool) (w : World) (h : chunk_letter.f a0_0 a0_1 a0_2 = some r) :
  Calls Tryz.prog 45 #[.agg #[.int .i64 a0_0, .int .u8 a0_1, .int .i64 a0_2]] w fun e w' => e = .returned (.bool r) ∧ Below w.heap.size w w' := by
 have hu42 := Tryz.underlying42
 have HB := aK (Below.refl w.heap.size w)
 have H : (if a0_0 = 1 then ((chars_Letter.f a0_1).bind fun t127 => (some t127)) else (some false)) = some r := h
 clear h
 by_cases c2 : a0_0 = 1
 rotate_left
 ·
  rw [if_neg c2] at H; obtain ⟨c2b0, c2b1⟩ := bN c2; obtain rfl := oI H
  go_enter Tryz.func45, Tryz.ntmps45
  go_wp2_with (first | ((with_reducible refine gate_dst (N := 1) rfl ?_); refine box_event ?hg (N := 1) ?hd (cs := #[.int .i64 a0_0, .int .u8 a0_1, .int .i64 a0_2]) (t := 42) ?hr ?_; (case hd => rfl); (case hg => rfl); (case hr => first | (go_simp; done) | (go_simp; rfl)); intro gb126 hg w7 hbox hb; have n0_ := aK (bSp bX hb); have n1_ := aK (hbox); have n2_ := aK ((by rw [hg]; exact (bSz bX) : w.heap.size ≤ gb126)); have n3_ := aK ((by rw [hg]; exact (bSz bX) : w.heap.size ≤ gb126)); clear HB; have HB := n0_; have BK126 := n1_; have GW126 := n2_; have GE126 := n3_; clear n0_ n1_ n2_ n3_; clear hb hbox hg; have hcz8_0 : w7.cell? ⟨gb126, 0, none⟩ = some (.int .i64 a0_0) := (kCe BK126.out 0).trans rfl; have hcz8_1 : w7.cell? ⟨gb126, 1, none⟩ = some (.int .u8 a0_1) := (kCe BK126.out 1).trans rfl; have hcz8_2 : w7.cell? ⟨gb126, 2, none⟩ = some (.int .i64 a0_2) := (kCe BK126.out 2).trans rfl; have hfz8_0 := bFz BK126.out 0; have hfz8_1 := bFz BK126.out 1; have hfz8_2 := bFz BK126.out 2))
  go_ret
  exact ⟨eX, bX1 GE126.out⟩
 rw [if_pos c2] at H
 obtain ⟨c2b0, c2b1⟩ := bY c2
 clear c2
 replace H := oB H
 obtain ⟨t127, A30, H⟩ := H
 replace H : (some t127) = some r := H
 have A3 := aK A30
 clear A30
 obtain rfl := oI H
 go_enter Tryz.func45, Tryz.ntmps45
 go_wp2_with (first | ((with_reducible refine gate_dst (N := 1) rfl ?_); refine box_event ?hg (N := 1) ?hd (cs := #[.int .i64 a0_0, .int .u8 a0_1, .int .i64 a0_2]) (t := 42) ?hr ?_; (case hd => rfl); (case hg => rfl); (case hr => first | (go_simp; done) | (go_simp; rfl)); intro gb126 hg w4 hbox hb; have n0_ := aK (bSp bX hb); have n1_ := aK (hbox); have n2_ := aK ((by rw [hg]; exact (bSz bX) : w.heap.size ≤ gb126)); have n3_ := aK ((by rw [hg]; exact (bSz bX) : w.heap.size ≤ gb126)); clear HB; have HB := n0_; have BK126 := n1_; have GW126 := n2_; have GE126 := n3_; clear n0_ n1_ n2_ n3_; clear hb hbox hg; have hcz5_0 : w4.cell? ⟨gb126, 0, none⟩ = some (.int .i64 a0_0) := (kCe BK126.out 0).trans rfl; have hcz5_1 : w4.cell? ⟨gb126, 1, none⟩ = some (.int .u8 a0_1) := (kCe BK126.out 1).trans rfl; have hcz5_2 : w4.cell? ⟨gb126, 2, none⟩ = some (.int .i64 a0_2) := (kCe BK126.out 2).trans rfl; have hfz5_0 := bFz BK126.out 0; have hfz5_1 := bFz BK126.out 1; have hfz5_2 := bFz BK126.out 2) | (go_at_call 89; (with_reducible refine (chars_Letter.calls a0_1 t127 _ A3.out).mono ?_); rintro e w6 ⟨rfl, hb⟩; replace BK126 := aK (kBe (g := gb126) (o := .cells #[.int .i64 a0_0, .int .u8 a0_1, .int .i64 a0_2] 42 (0, 0)) (kX BK126.out) hb); replace HB := aK (bSp (bX1 GE126.out) hb); clear hb))
 go_ret
 exact ⟨eX, bX1 GE126.out⟩
def chars_Lower.f (a0 : Int) : Option (Int) := (chars_Class.f a0).bind fun t128 => (if t128 = 2 then (some (Go.bits .or .u8 a0 32)) else (some a0))
theorem chars_Lower.calls (a0 : Int) (r : Int) (w : World) (h : chars_Lower.f a0 = some r) :
  Calls Tryz.prog 22 #[.int .u8 a0] w fun e w' => e = .returned (.int .u8 r) ∧ Below w.heap.size w w' := by
 have HB := aK (Below.refl w.heap.size w)
 have H : ((chars_Class.f a0).bind fun t128 => (if t128 = 2 then (some (Go.bits .or .u8 a0 32)) else (some a0))) = some r := h
 clear h
 obtain ⟨t128, A2, H⟩ := oC H
 try dsimp only at H
 by_cases c3 : t128 = 2
 rotate_left
 ·
  rw [if_neg c3] at H; obtain ⟨c3b0, c3b1⟩ := bN c3; obtain rfl := oI H
  go_enter Tryz.func22, Tryz.ntmps22
  go_wp2_with (first | ((with_reducible refine gate_callee (f := 62) rfl ?_); refine gO 4 Tryz.func62 #[.int .u8 a0] ?_; (with_reducible refine (chars_Class.calls a0 t128 _ A2.out).mono ?_); rintro e w5 ⟨rfl, hb⟩; refine ⟨_, rfl, ?_⟩; replace HB := aK (bSp bX hb); clear hb))
  go_ret
  exact ⟨eX, bX⟩
 rw [if_pos c3] at H
 obtain ⟨c3b0, c3b1⟩ := bY c3
 clear c3
 obtain rfl := oI H
 go_enter Tryz.func22, Tryz.ntmps22
 go_wp2_with (first | ((with_reducible refine gate_callee (f := 62) rfl ?_); refine gO 4 Tryz.func62 #[.int .u8 a0] ?_; (with_reducible refine (chars_Class.calls a0 t128 _ A2.out).mono ?_); rintro e w4 ⟨rfl, hb⟩; refine ⟨_, rfl, ?_⟩; replace HB := aK (bSp bX hb); clear hb))
 go_ret
 exact ⟨eX, bX⟩
def stringslite_HasPrefix.f (a0 : ByteArray) (a1 : ByteArray) : Option (Bool) := if (a0.size : Int) ≥ (a1.size : Int) then (if 0 ≤ (a1.size : Int) then (if (a1.size : Int) ≤ (a0.size : Int) then (some ((a0.extract 0 ((a1.size : Int) : Int).toNat).toList == a1.toList)) else (none)) else (none)) else (some false)
theorem stringslite_HasPrefix.calls (a0 : ByteArray) (a1 : ByteArray) (r : Bool) (w : World) (h : stringslite_HasPrefix.f a0 a1 = some r) :
  Calls Tryz.prog 137 #[.string a0, .string a1] w fun e w' => e = .returned (.bool r) ∧ Drawn0 w w' := by
 have H : (if (a0.size : Int) ≥ (a1.size : Int) then (if 0 ≤ (a1.size : Int) then (if (a1.size : Int) ≤ (a0.size : Int) then (some ((a0.extract 0 ((a1.size : Int) : Int).toNat).toList == a1.toList)) else (none)) else (none)) else (some false)) = some r := h
 clear h
 by_cases c3 : (a0.size : Int) ≥ (a1.size : Int)
 rotate_left
 ·
  rw [if_neg c3] at H; have c3b0 : decide ((a1.size : Int) ≤ (a0.size : Int)) = false := decide_eq_false c3
  have c3b1 : decide (a1.size ≤ a0.size) = false := decide_eq_false (fun h => c3 (Int.ofNat_le.mpr h))
  clear c3; obtain rfl := oI H
  go_enter Tryz.func137, Tryz.ntmps137
  go_wp2
  go_ret
  exact ⟨sX, dX⟩
 rw [if_pos c3] at H
 have c3b0 : decide ((a1.size : Int) ≤ (a0.size : Int)) = true := decide_eq_true c3
 have c3b1 : decide (a1.size ≤ a0.size) = true := decide_eq_true (Int.ofNat_le.mp c3)
 clear c3
 by_cases c4 : 0 ≤ (a1.size : Int)
 rotate_left
 ·
  rw [if_neg c4] at H
  exact absurd H (by simp)
 rw [if_pos c4] at H
 have c4b0 := eq_true c4
 have c4b1 : decide (0 ≤ (a1.size : Int)) = true := decide_eq_true c4
 clear c4
 by_cases c5 : (a1.size : Int) ≤ (a0.size : Int)
 rotate_left
 ·
  rw [if_neg c5] at H
  exact absurd H (by simp)
 rw [if_pos c5] at H
 have c5b0 := eq_true c5
 have c5b1 : decide ((a1.size : Int) ≤ (a0.size : Int)) = true := decide_eq_true c5
 clear c5
 obtain rfl := oI H
 go_enter Tryz.func137, Tryz.ntmps137
 go_wp2
 go_ret
 exact ⟨sX, dX⟩
def stringslite_CutPrefix.f (a0 : ByteArray) (a1 : ByteArray) : Option (ByteArray × Bool) := (stringslite_HasPrefix.f a0 a1).bind fun t129 => (if t129 = true then (if 0 ≤ (a1.size : Int) then (if (a1.size : Int) ≤ (a0.size : Int) then (some (a0.extract ((a1.size : Int) : Int).toNat a0.size, true)) else (none)) else (none)) else (some (a0, false)))
theorem stringslite_CutPrefix.calls (a0 : ByteArray) (a1 : ByteArray) (r1 : ByteArray) (r2 : Bool) (w : World) (h : stringslite_CutPrefix.f a0 a1 = some (r1, r2)) :
  Calls Tryz.prog 114 #[.string a0, .string a1] w fun e w' => e = .returned (.tuple #[.string r1, .bool r2]) ∧ Drawn0 w w' := by
 have H : ((stringslite_HasPrefix.f a0 a1).bind fun t129 => (if t129 = true then (if 0 ≤ (a1.size : Int) then (if (a1.size : Int) ≤ (a0.size : Int) then (some (a0.extract ((a1.size : Int) : Int).toNat a0.size, true)) else (none)) else (none)) else (some (a0, false)))) = some (r1, r2) := h
 clear h
 obtain ⟨t129, A3, H⟩ := oC H
 try dsimp only at H
 by_cases c4 : t129 = true
 rotate_left
 ·
  replace c4 := Bool.eq_false_iff.mpr c4; subst c4
  have H1 : (some (a0, false)) = some (r1, r2) := by rw [if_neg (show ¬ (false = true) by decide)] at H; exact H
  clear H
  have H := H1
  clear H1
  simp only [Option.some.injEq, Prod.mk.injEq] at H
  obtain ⟨rfl, rfl⟩ := H
  go_enter Tryz.func114, Tryz.ntmps114
  go_wp2_with (first | ((with_reducible refine gate_callee (f := 137) rfl ?_); refine gO 8 Tryz.func137 #[.string a0, .string a1] ?_; (with_reducible refine (stringslite_HasPrefix.calls a0 a1 false _ A3.out).mono ?_); rintro e w' ⟨rfl, ⟨nd, rfl⟩⟩; refine ⟨_, rfl, ?_⟩))
  go_ret2
  exact ⟨sX, dX⟩
 subst c4
 have H1 : (if 0 ≤ (a1.size : Int) then (if (a1.size : Int) ≤ (a0.size : Int) then (some (a0.extract ((a1.size : Int) : Int).toNat a0.size, true)) else (none)) else (none)) = some (r1, r2) := by rw [if_pos rfl] at H; exact H
 clear H
 have H := H1
 clear H1
 by_cases c5 : 0 ≤ (a1.size : Int)
 rotate_left
 ·
  rw [if_neg c5] at H
  exact absurd H (by simp)
 rw [if_pos c5] at H
 have c5b0 := eq_true c5
 have c5b1 : decide (0 ≤ (a1.size : Int)) = true := decide_eq_true c5
 clear c5
 by_cases c6 : (a1.size : Int) ≤ (a0.size : Int)
 rotate_left
 ·
  rw [if_neg c6] at H
  exact absurd H (by simp)
 rw [if_pos c6] at H
 have c6b0 := eq_true c6
 have c6b1 : decide ((a1.size : Int) ≤ (a0.size : Int)) = true := decide_eq_true c6
 clear c6
 simp only [Option.some.injEq, Prod.mk.injEq] at H
 obtain ⟨rfl, rfl⟩ := H
 go_enter Tryz.func114, Tryz.ntmps114
 go_wp2_with (first | ((with_reducible refine gate_callee (f := 137) rfl ?_); refine gO 8 Tryz.func137 #[.string a0, .string a1] ?_; (with_reducible refine (stringslite_HasPrefix.calls a0 a1 true _ A3.out).mono ?_); rintro e w' ⟨rfl, ⟨nd, rfl⟩⟩; refine ⟨_, rfl, ?_⟩))
 go_ret2
 exact ⟨sX, dX⟩
def strings_CutPrefix.f (a0 : ByteArray) (a1 : ByteArray) : Option (ByteArray × Bool) := (stringslite_CutPrefix.f a0 a1).bind fun bt130 => (some (bt130.1, bt130.2))
theorem strings_CutPrefix.calls (a0 : ByteArray) (a1 : ByteArray) (r1 : ByteArray) (r2 : Bool) (w : World) (h : strings_CutPrefix.f a0 a1 = some (r1, r2)) :
  Calls Tryz.prog 82 #[.string a0, .string a1] w fun e w' => e = .returned (.tuple #[.string r1, .bool r2]) ∧ Drawn0 w w' := by
 have H : ((stringslite_CutPrefix.f a0 a1).bind fun bt130 => (some (bt130.1, bt130.2))) = some (r1, r2) := h
 clear h
 replace H := oB H
 obtain ⟨⟨t130, t131⟩, A30, H⟩ := H
 replace H : (some (t130, t131)) = some (r1, r2) := H
 have A3 := aK A30
 clear A30
 simp only [Option.some.injEq, Prod.mk.injEq] at H
 obtain ⟨rfl, rfl⟩ := H
 go_enter Tryz.func82, Tryz.ntmps82
 go_wp2_with (first | ((with_reducible refine gate_callee (f := 114) rfl ?_); refine gO 8 Tryz.func114 #[.string a0, .string a1] ?_; (with_reducible refine (stringslite_CutPrefix.calls a0 a1 t130 t131 _ A3.out).mono ?_); rintro e w' ⟨rfl, ⟨nd, rfl⟩⟩; refine ⟨_, rfl, ?_⟩))
 go_ret2
 exact ⟨sX, dX⟩
end Go.Proofs.YtbpbniemjjhecaaGreat.PChk
end
section
namespace Go.Proofs.YtbpbniemjjhecaaGreat.G
set_option linter.unusedVariables false
set_option linter.unusedSimpArgs false
open Go.RowKit Go.Proofs.YtbpbniemjjhecaaGreat.PChk Go.Proofs.YtbpbniemjjhecaaGreatW.PrintWords Go.Proofs.YtbpbniemjjhecaaGreatW.PrintLast Go.Proofs.YtbpbniemjjhecaaGreatW.PrintMore
def lowN (b : UInt8) : UInt8 := if 65 ≤ b.toNat ∧ b.toNat ≤ 90 then b + 32 else b
def lowS (s : ByteArray) : ByteArray := ⟨(s.data.toList.map lowN).toArray⟩
theorem low_size (s : ByteArray) : (lowS s).size = s.size := by
 show (s.data.toList.map lowN).toArray.size = s.data.size
 simp
theorem lower_256 : ∀ n : Fin 256, chars_Lower.f (n.val : Int) = some ((lowN (UInt8.ofNat n.val)).toNat : Int) := by decide +kernel
theorem lower_is (b : UInt8) : chars_Lower.f (b.toNat : Int) = some ((lowN b).toNat : Int) := by
 have h := lower_256 ⟨b.toNat, b.toNat_lt⟩
 simpa using h
structure LowB (w : World) (g : Nat) (s : ByteArray) (k : Nat) : Prop where
 out : ∃ (cs : Array Value) (z : Nat), w.heap[g]? = some (.cells cs 5 (z, z + 1)) ∧ s.size ≤ z ∧ ∀ j (b : UInt8), s.data.toList[j]? = some b → cs[j]? = some (Value.int .u8 ((if j < k then lowN b else b).toNat : Int))
theorem low_cell {w : World} {g : Nat} {s : ByteArray} {k : Nat} (h : LowB w g s k) (j : Nat) (b : UInt8) (hb : s.data.toList[j]? = some b) : w.cell? ⟨g, j, none⟩ = some (.int .u8 ((if j < k then lowN b else b).toNat : Int)) ∧ w.frozen? ⟨g, j, none⟩ = false := by
 obtain ⟨cs, z, h1, h2, h3⟩ := h.out
 have hj : j < s.size := (List.getElem?_eq_some_iff.1 hb).1
 refine ⟨?_, ?_⟩
 ·
  rw [← h3 j b hb]
  simp [World.cell?, h1]
 ·
  simp [World.frozen?, h1]
  omega
theorem low_on {w w1 : World} {g : Nat} {s : ByteArray} {k : Nat} (h : LowB w g s k) (hb : Below w.heap.size w w1) : LowB w1 g s k := by
 obtain ⟨cs, z, h1, h2⟩ := h.out
 exact ⟨cs, z, (hb.block g (Array.getElem?_eq_some_iff.1 h1).1).trans h1, h2⟩
theorem low_put {w : World} {g : Nat} {s : ByteArray} {k : Nat} (h : LowB w g s k) (b : UInt8) (hb : s.data.toList[k]? = some b) : LowB (w.setCell ⟨g, k, none⟩ (.int .u8 ((lowN b).toNat : Int))) g s (k + 1) := by
 obtain ⟨cs, z, h1, h2, h3⟩ := h.out
 refine ⟨cs.setIfInBounds k (.int .u8 ((lowN b).toNat : Int)), z, by simp [World.setCell, Array.getElem?_modify, h1], h2, fun j c hc => ?_⟩
 have hcs := (Array.getElem?_eq_some_iff.1 (h3 j c hc)).1
 rw [Array.getElem?_setIfInBounds]
 by_cases e : k = j
 ·
  subst e
  rw [hb] at hc
  obtain rfl := Option.some.inj hc
  rw [if_pos rfl, if_pos hcs, if_pos (by omega)]
 ·
  rw [if_neg e, h3 j c hc]
  by_cases e2 : j < k
  ·
   rw [if_pos e2, if_pos (by omega)]
  ·
   rw [if_neg e2, if_neg (by omega)]
theorem low_read {w : World} {g : Nat} {s : ByteArray} (h : LowB w g s s.size) (hs : s.size ≤ 140737488351232) : Kd.C (Kd.int .u8) w (some ⟨g, 0, none⟩) s.size (s.data.toList.map fun b => ((lowN b).toNat : Int)) := by
 refine ⟨by rw [List.length_map]; exact s.data.length_toList, by omega, fun _ => ⟨⟨g, 0, none⟩, rfl, fun j p hj => ?_⟩⟩
 rw [List.getElem?_map, Option.map_eq_some_iff] at hj
 obtain ⟨b, hb, rfl⟩ := hj
 refine ⟨[.int .u8 ((lowN b).toNat : Int)], rfl, rfl, fun i u hu => ?_⟩
 have hjs : j < s.size := (List.getElem?_eq_some_iff.1 hb).1
 have hc := (low_cell h j b hb).1
 rw [if_pos hjs] at hc
 cases i with
 | zero =>
  obtain rfl := Option.some.inj hu
  rw [show (Kd.int .u8).sz = 1 from rfl, add_plain, show j * 1 + 0 = j from by omega]
  exact hc
 | succ i => cases hu
theorem low_text (s : ByteArray) : strOfNums (s.data.toList.map fun b => ((lowN b).toNat : Int)) = lowS s := by
 apply ByteArray.ext
 apply Array.toList_inj.1
 rw [strOfNums_data]
 simp [lowS]
set_option maxHeartbeats 1600000 in
set_option maxRecDepth 100000 in
theorem low_walk (s : ByteArray) (w : World) (hs : s.size ≤ 140737488351232) :
  Calls Tryz.prog 47 #[.string s] w fun e w' => e = .returned (.string (lowS s)) ∧ Below w.heap.size w w' := by
 have hcb := fun w => Lib.run_convert_string_bytes (P := Tryz.prog) w 9 52 5 s Tryz.underlying9 Tryz.underlying52 Tryz.underlying5
 go_enter Tryz.func47, Tryz.ntmps47
 go_wp2
 have hnew := Lib.bytesWorld_at_new w 5 s
 have hcell := Lib.bytesWorld_cell w 5 s
 have hB := Go.Joins.below_bytesWorld w.heap.size w 5 s (Nat.le_refl _)
 generalize grownCap w s.size 0 5 = cap at *
 have hsz : s.size ≤ (Lib.bytesCells w 5 s).size := by simp [Lib.bytesCells]
 generalize Lib.bytesCells w 5 s = cs0 at *
 clear hcb
 generalize Lib.bytesWorld w 5 s = W2 at *
 have HB := Lib.hid hB
 obtain ⟨g, hg⟩ : ∃ g, w.heap.size = g := ⟨_, rfl⟩
 have HG := Lib.hid (Nat.le_of_eq hg)
 rw [hg] at hnew hcell ⊢
 clear hg
 have HL0 : Hid (LowB W2 g s 0) := Lib.hid ⟨cs0, cs0.size, hnew, hsz, fun j b hb => by
  have hj : j < s.size := (List.getElem?_eq_some_iff.1 hb).1
  have h1 := hcell j hj
  rw [if_neg (by omega)]
  have h2 : W2.cell? ⟨g, j, none⟩ = cs0[j]? := by simp [World.cell?, hnew]
  rw [← h2, h1, show s.data.toList.getD j 0 = b from by rw [List.getD, hb]; rfl]⟩
 clear hnew hcell hsz hB
 have hsl : (s.size : Int) ≤ 140737488351232 := by omega
 go_loopw [10] (fun i wr => ∃ k : Nat, k ≤ s.size ∧ i = .int .i64 k ∧ Hid (LowB wr g s k) ∧ Hid (Below w.heap.size w wr)) (fun i _ => s.size - (intOf i).toNat)
 case atStart => exact ⟨0, Nat.zero_le _, rfl, HL0, HB⟩
 case round =>
  clear HL0 HB
  obtain ⟨k, hk, rfl, HL, HB⟩ := hrel
  by_cases hlt : k < s.size
  ·
   obtain ⟨b, hb⟩ : ∃ b, s.data.toList[k]? = some b := ⟨s.data.toList[k]'(by simpa using hlt), List.getElem?_eq_getElem _⟩
   have hc := low_cell HL.out k b hb
   rw [if_neg (Nat.lt_irrefl k)] at hc
   have c1 := hc.1
   have hlw := fun W => chars_Lower.calls (b.toNat : Int) ((lowN b).toNat : Int) W (lower_is b)
   have HBB := Lib.hid hb
   have hkk : (k : Int) < (s.size : Int) := by omega
   clear hc hb
   go_wp2_with fail
   go_at_call 22
   refine (hlw _).mono ?_
   rintro e w4 ⟨rfl, b4⟩
   have HL4 := Lib.hid (low_on HL.out b4)
   have HB4 := Lib.hid (bSp HB.out b4)
   have hc4 := low_cell HL4.out k b HBB.out
   have c2 := hc4.1
   have f2 := hc4.2
   clear b4 hlw c1 hc4 HL HB
   go_wp2
   go_roundw
   case rel => exact ⟨k + 1, by omega, by go_num, Lib.hid (low_put HL4.out b HBB.out), Lib.hid (HB4.out.setCell (p := ⟨g, k, none⟩) HG.out _)⟩
   case measure => simp [intOf]; omega
  ·
   obtain rfl : k = s.size := by omega
   have hcv := Kd.C_string (P := Tryz.prog) Tryz.underlying52 Tryz.underlying5 Tryz.underlying9 (c := cap) (low_read HL.out hs)
   rw [low_text] at hcv
   go_wp2
   go_ret
   exact ⟨rfl, HB.out⟩
def chars_Low.f (s : ByteArray) : Option ByteArray := if s.size ≤ 140737488351232 then some (lowS s) else none
theorem chars_Low.calls (a0 : ByteArray) (r : ByteArray) (w : World) (h : chars_Low.f a0 = some r) :
  Calls Tryz.prog 47 #[.string a0] w fun e w' => e = .returned (.string r) ∧ Below w.heap.size w w' := by
 unfold chars_Low.f at h
 split at h
 ·
  rename_i hb
  obtain rfl := Option.some.inj h
  exact low_walk a0 w hb
 ·
  cases h
end Go.Proofs.YtbpbniemjjhecaaGreat.G
end
section
namespace Go.Proofs.YtbpbniemjjhecaaGreat.PureC
open Go.RowKit Go.Proofs.YtbpbniemjjhecaaGreat.PChk Go.Proofs.YtbpbniemjjhecaaGreat.G Go.Proofs.YtbpbniemjjhecaaGreat.GT Go.Proofs.YtbpbniemjjhecaaGreatW.PrintWords Go.Proofs.YtbpbniemjjhecaaGreatW.PrintLast
set_option linter.unusedSimpArgs false
theorem bytes_ext {a b : ByteArray} (h : a.toList = b.toList) : a = b := by
 rw [toList_data, toList_data] at h
 exact ByteArray.ext (Array.toList_inj.1 h)
theorem letter_rule {l : List Rl} (hw : Whole l) (c : UInt8) (h1 : 97 ≤ c.toNat) (h2 : c.toNat ≤ 122) : ∃ x ∈ l, x.f0 = 1 ∧ x.f1 = ⟨#[c]⟩ := by
 have hm : wRule 1 ⟨#[c]⟩ ∈ wantedL := by
  unfold wantedL
  refine List.mem_append_left _ (List.mem_append_left _ (List.mem_append_left _ ?_))
  unfold wBytes upB
  refine List.mem_map.2 ⟨c, List.mem_map.2 ⟨c.toNat - 97, List.mem_range.2 (by omega), ?_⟩, rfl⟩
  rw [show 97 + (c.toNat - 97) = c.toNat from by omega]
  simp
 have h := hw _ hm
 rw [List.any_eq_true] at h
 obtain ⟨x, hx, he⟩ := h
 unfold isOf at he
 rw [Bool.and_eq_true, beq_iff_eq, beq_iff_eq] at he
 exact ⟨x, hx, he.1, bytes_ext he.2⟩
theorem one_at (s : ByteArray) (i : Nat) (h : i < s.size) : s.extract i (i + 1) = (⟨#[s[i]]⟩ : ByteArray) := by
 apply ByteArray.ext
 apply Array.ext
 ·
  simp; omega
 ·
  intro j h1 h2
  simp at h2
  subst h2
  simp [ByteArray.getElem_eq_getElem_data]
theorem small_at {s : ByteArray} (h : smallB s = true) (i : Nat) (hi : i < s.size) : 97 ≤ s[i].toNat ∧ s[i].toNat ≤ 122 := by
 unfold smallB at h
 rw [List.all_eq_true] at h
 have h1 := h s[i] (by rw [ByteArray.getElem_eq_getElem_data]; exact Array.mem_toList_iff.2 (Array.getElem_mem _))
 rw [beq_iff_eq] at h1
 unfold classN at h1
 split at h1
 ·
  omega
 ·
  exfalso
  repeat' split at h1
  all_goals omega
theorem spot_small {run : ByteArray} {a : Int} (hs : run.size ≤ 140737488351232) (h : spotB run a = true) : smallB run = true := by
 unfold spotB at h
 by_cases hc : caseF run = 1
 ·
  have h1 := case_small run hs
  rw [hc] at h1
  have h2 := h1.symm
  rw [show ((1 : Int) == 1) = true from rfl, Bool.and_eq_true] at h2
  exact h2.2
 ·
  rw [if_neg hc] at h
  cases h
theorem upTo_pos {run : ByteArray} {a most : Int} (h1 : a < run.size) (hm : 0 < most) : 1 ≤ upTo run a most := by
 unfold upTo mn
 split <;> omega
theorem best_some {l : List Rl} (hw : Whole l) {run : ByteArray} {a most : Int} (hs : run.size ≤ 140737488351232) (h : spotB run a = true) (hm : 0 < most) : ∃ x i, bestS l run a (upTo run a most) = some (x, i) := by
 obtain ⟨h0, h1⟩ := spotB_at h
 have hsm := spot_small hs h
 obtain ⟨n, rfl⟩ : ∃ n : Nat, a = (n : Int) := ⟨a.toNat, by omega⟩
 have hn : n < run.size := by omega
 obtain ⟨c1, c2⟩ := small_at hsm n hn
 obtain ⟨y, hy, y0, y1⟩ := letter_rule hw run[n] c1 c2
 cases hb : bestS l run (n : Int) (upTo run (n : Int) most) with
 | some d => exact ⟨d.1, d.2, rfl⟩
 | none =>
  exfalso
  have h2 := (best_least l run (n : Int) (upTo run (n : Int) most)).none hb (1, 1) ((mem_pairs _ _ _).2 ⟨by omega, by have := upTo_pos h1 hm; omega, by omega, by omega⟩)
  unfold candO at h2
  rw [if_pos (by unfold mayP; rw [if_pos rfl])] at h2
  have h3 := lastI_none _ l h2 y hy
  unfold leftP at h3
  rw [decide_eq_false_iff_not] at h3
  refine h3 ?_
  rw [y0, y1]
  congr 1
  rw [show ((n : Int)).toNat = n from rfl, show ((n : Int) + 1).toNat = n + 1 from by omega, one_at run n hn]
theorem may_four {sz : Nat} {a what n : Int} (h : mayP sz a what n = true) : 1 ≤ what ∧ what ≤ 4 := by
 unfold mayP at h
 repeat' split at h
 all_goals first | omega | (cases h; done)
theorem alone_letters (x : Rl) (h : aloneB x = true) (h4 : x.f0 ≤ 5) : 1 ≤ x.f1.size ∧ x.f1.size ≤ 12 ∧ smallB x.f1 = true := by
 unfold aloneB mayB leftB at h
 simp only [Bool.and_eq_true] at h
 obtain ⟨⟨⟨⟨h1, h2⟩, _⟩, _⟩, _⟩ := h
 rw [decide_eq_true_eq] at h1
 rw [if_neg (by omega), if_neg (by omega), if_neg (by omega), Bool.and_eq_true, decide_eq_true_eq] at h2
 exact ⟨h2.1.1, h2.1.2, h2.2⟩
theorem go_out {l : List Rl} (hw : Whole l) {run : ByteArray} (hs : run.size ≤ 140737488351232) : ∀ (k : Nat) (a : Int) (out : List Int), allGo l run k a out = out ++ allGo l run k a []
 | 0, _, out => by simp [allGo]
 | k + 1, a, out => by
  unfold allGo
  cases h : spotB run a with
  | false => simp
  | true =>
   rw [if_pos rfl, if_pos rfl]
   obtain ⟨x, i, e⟩ := best_some hw hs h (by have := spotB_at h; omega : (0 : Int) < run.size)
   rw [e]
   simp only
   rw [go_out hw hs k _ (out ++ [i]), go_out hw hs k _ ([] ++ [i])]
   simp
theorem all_cons {l : List Rl} (hw : Whole l) {run : ByteArray} {a : Int} (hs : run.size ≤ 140737488351232) (h : spotB run a = true) : ∃ x i, bestS l run a (upTo run a run.size) = some (x, i) ∧ allF l run a = i :: allF l run (a + (x.f1.size : Int)) := by
 obtain ⟨h0, h1⟩ := spotB_at h
 obtain ⟨x, i, e⟩ := best_some hw hs h (by omega : (0 : Int) < run.size)
 refine ⟨x, i, e, ?_⟩
 obtain ⟨b1, b2, b3, b4, b5, b6, b7⟩ := best_at l run a run.size x i h0 h1 e
 show allGo l run (run.size + 1) a [] = _
 conv => lhs; unfold allGo
 rw [h, if_pos rfl, e]
 simp only
 rw [go_out hw hs]
 show [] ++ [i] ++ allGo l run run.size (a + (x.f1.size : Int)) [] = i :: allGo l run (run.size + 1) (a + (x.f1.size : Int)) []
 rw [allGo_more l run run.size (run.size + 1) (a + (x.f1.size : Int)) [] (by omega) (by omega) (by omega)]
 rfl
theorem all_nil {l : List Rl} {run : ByteArray} {a : Int} (h : spotB run a = false) : allF l run a = [] := by
 show allGo l run (run.size + 1) a [] = _
 unfold allGo
 rw [h, if_neg (by decide)]
end Go.Proofs.YtbpbniemjjhecaaGreat.PureC
end
section
namespace Go.Proofs.YtbpbniemjjhecaaGreat.G
set_option linter.unusedVariables false
set_option linter.unusedSimpArgs false
open Go.RowKit Go.Maps Go.Proofs.YtbpbniemjjhecaaGreat.GM Go.Proofs.YtbpbniemjjhecaaGreat.GT Go.Proofs.YtbpbniemjjhecaaGreat.PChk Go.Proofs.YtbpbniemjjhecaaGreat.PureC Go.Proofs.YtbpbniemjjhecaaGreatW.PrintWords Go.Proofs.YtbpbniemjjhecaaGreatW.PrintLast Go.Proofs.YtbpbniemjjhecaaGreatW.PrintMore
def bestI (l : List Rl) (s : ByteArray) (a most : Int) : Int := ((bestO l s a most).map (·.2)).getD 0
theorem bestI_at {l : List Rl} (hl : l ≠ []) (s : ByteArray) (a most : Int) : ∃ i : Nat, ∃ x, bestI l s a most = (i : Int) ∧ l[i]? = some x := by
 unfold bestI
 cases ho : bestO l s a most with
 | none =>
  have h0 := List.length_pos_iff.2 hl
  exact ⟨0, l[0], rfl, List.getElem?_eq_getElem h0⟩
 | some d =>
  obtain ⟨x, i⟩ := d
  unfold bestO at ho
  cases hs : spotB s a with
  | false => rw [hs, if_neg (by decide)] at ho; cases ho
  | true =>
   rw [hs, if_pos rfl] at ho
   obtain ⟨b1, b2, _⟩ := best_at l s a most x i (spotB_at hs).1 (spotB_at hs).2 ho
   exact ⟨i.toNat, x, by simp only [Option.map_some, Option.getD_some]; omega, b1⟩
set_option maxHeartbeats 1600000 in
set_option maxRecDepth 100000 in
theorem part_walk (X : Nat → Prop) (w0 w : World) (g : Nat) (t : Tr) (l : List Rl) (out : List Pc) (s : ByteArray) (frm a most : Int) (i : Nat) (x : Rl) (h : WRx X w0 w g t l out) (hX : ∀ q, X q → q < w.heap.size) (ht : t.x = some (some l)) (hl : l ≠ []) (hn : out.length ≤ 1000000) (hs : s.size ≤ 1000000)
  (hi : bestI l (lowS s) a most = (i : Int)) (hx : l[i]? = some x) (hf : 0 ≤ frm ∧ frm ≤ 1000000) (ha : 0 ≤ a ∧ a ≤ 1000000) (hz : x.f1.size ≤ 1000000) :
  Calls Tryz.prog 119 #[.pointer (some ⟨g, 0, none⟩), .string s, .int .i64 frm, .int .i64 a, .int .i64 most] w fun e w' => e = .returned (.int .i64 (a + x.f1.size)) ∧ WRx X w0 w' g t l (out ++ [⟨(i : Int), frm + a, (x.f1.size : Int)⟩]) := by
 obtain ⟨A, c, vo, hW⟩ := h
 have hu := Tryz.underlying92
 have hp := Tryz.underlying48
 have z0 : w.cell? ⟨g, 0, none⟩ = some t.v := (kCe hW.blk 0).trans rfl
 have HW := Lib.hid hW
 have HL := Lib.hid hl
 have HX := Lib.hid hX
 have hlo := fun W => chars_Low.calls s (lowS s) W (by unfold chars_Low.f; rw [if_pos (by omega)])
 obtain ⟨b, hb⟩ : ∃ b, (bestO l (lowS s) a most).isSome = b := ⟨_, rfl⟩
 have hbe := fun W hT => part_Best.calls t (lowS s) a most (i : Int) b W hT (by
  unfold part_Best.f
  rw [ht]
  simp only
  rw [if_pos (by rw [low_size]; omega)]
  rw [← hi, ← hb]
  rfl)
 have hil : i < l.length := (List.getElem?_eq_some_iff.1 hx).1
 have HRD := Lib.hid (show rd_T50 l (i : Int) = x from by simp [rd_T50, hx])
 generalize lowS s = ls at *
 clear hW hl hX hi hb hx ht
 go_enter Tryz.func119, Tryz.ntmps119
 go_wp2
 go_region_with (first | (go_at_call 47; refine (hlo _).mono ?_; rintro e w2 ⟨rfl, b2⟩; have HW2 := Lib.hid (HW.out.on (bSp (by first | exact Below.refl _ _ | exact below_drew (Below.refl _ _) | exact pbD (Below.refl _ _) _ | exact pbD (below_drew (Below.refl _ _)) _) b2)); have y0 : w2.cell? ⟨g, 0, none⟩ = some t.v := (kCe HW2.out.blk 0).trans rfl; have S2 := Lib.hid (show w.heap.size ≤ w2.heap.size from (bSp (by first | exact Below.refl _ _ | exact below_drew (Below.refl _ _) | exact pbD (Below.refl _ _) _ | exact pbD (below_drew (Below.refl _ _)) _) b2).size); clear b2) | (go_at_call 141; refine (hbe _ (HW2.out.trie.below (by first | exact Below.refl _ _ | exact below_drew (Below.refl _ _) | exact pbD (Below.refl _ _) _ | exact pbD (below_drew (Below.refl _ _)) _))).mono ?_; rintro e w3 ⟨rfl, b3⟩; have HW3 := Lib.hid (HW2.out.on (bSp (by first | exact Below.refl _ _ | exact below_drew (Below.refl _ _) | exact pbD (Below.refl _ _) _ | exact pbD (below_drew (Below.refl _ _)) _) b3)); have S3 := Lib.hid (Nat.le_trans S2.out (bSp (by first | exact Below.refl _ _ | exact below_drew (Below.refl _ _) | exact pbD (Below.refl _ _) _ | exact pbD (below_drew (Below.refl _ _)) _) b3).size); clear b3))
 all_goals
  clear hlo hbe z0 y0
  obtain ⟨ad, e_, g0, g1, g2, g3, g4⟩ := at_T50 HW3.out.rules (i : Int) (by omega) (by omega)
  rw [HRD.out] at g1
  simp only [Int.toNat_natCast] at g1
  cases e_
  clear g0 g2 g3 g4
  have z1 : w3.cell? ⟨g, 1, none⟩ = some (.slice (some ad) l.length c) := (kCe HW3.out.blk 1).trans rfl
  have z2 : w3.cell? ⟨g, 2, none⟩ = some vo := (kCe HW3.out.blk 2).trans rfl
  have q1 : (i : Int) < (l.length : Int) := by omega
  have q2 : i ≤ c := by have h_ := HW3.out.cap; omega
  have q3 : (i : Int) ≤ (c : Int) := by omega
  have HFR := Lib.hid (HW3.out.free HL.out (fun q hq => by have h1_ := HX.out q hq; have h2_ := S3.out; omega))
  go_wp2_with (first | ((with_reducible refine gate_builtin (b := .append) (xs := #[.tmp 39, .tmp 46]) rfl ?_); at_builtin; refine Kd.R_append k48 (w0 := w0) w0.heap.size rfl (.tmp 39) (.tmp 46) 33 48 (.agg #[(.int .i64 0), (.int .i64 0), (.int .i64 0)]) 24 rfl Tryz.underlying33 info48 rfl ?q1 ?q2 vo out (⟨(i : Int), frm + a, (x.f1.size : Int)⟩ : Pc) [.int .i64 (i : Int), .int .i64 (frm + a), .int .i64 (x.f1.size : Int)] (fun q => ¬ X q ∧ q ≠ g ∧ ∀ ad_1, some ad = some ad_1 → q ≠ ad_1.block) (fun _ => False) rfl ?q3 ?aP (fun _ hk => hk.elim) ?aF ?aO ?aB ?aS ?aL ?_; (case q1 => decide); (case q2 => omega); (case q3 => first | rfl | (go_simp; done) | (go_simp; rfl)); (case aP => exact k48_mkM _ _ _ (⟨(i : Int), frm + a, (x.f1.size : Int)⟩ : Pc)); (case aB => exact (by repeat (first | (with_reducible first | exact HW3.out.below | apply bAl | apply pbD | apply bD1) | exact HW3.out.below))); (case aF => exact (fun k_ hk => HFR.out k_ (by first | exact hk | exact Nat.le_trans (Nat.le_succ _) (by simpa only [World.size_alloc] using hk) | (simp only [World.size_alloc] at hk; omega)))); (case aO => exact (by (with_reducible repeat (first | apply Kd.R_alloc | apply Kd.R_drewN | apply Kd.R_drew)); exact HW3.out.out)); (case aS => exact (bSz (by repeat (first | (with_reducible first | exact HW3.out.below | apply bAl | apply pbD | apply bD1) | exact HW3.out.below)))); (case aL => omega); intro v6 w6 ho hb hg hat; obtain ⟨A6, c6, e6⟩ := Kd.R_slice ho; subst e6; rw [show (out ++ [(⟨(i : Int), frm + a, (x.f1.size : Int)⟩ : Pc)]).length = out.length + 1 from by simp] at ho; have f6 : w6.frozen? ⟨g, 2, none⟩ = false := bFz ((hg.block g (blk_lt HW3.out.blk) (fun e_ => (HW3.out.out.1 g e_.symm).2.1 rfl)).trans HW3.out.blk) 2; have k6 : w6.cell? ⟨g, 2, none⟩ = some vo := (kCe ((hg.block g (blk_lt HW3.out.blk) (fun e_ => (HW3.out.out.1 g e_.symm).2.1 rfl)).trans HW3.out.blk) 2).trans rfl; have HY := Lib.hid (And.intro ho (And.intro hb hg)); clear ho hb hg hat z2))
  go_ret
  exact ⟨rfl, _, c, _, HW3.out.put HL.out HY.out.1 HY.out.2.1 HY.out.2.2⟩
end Go.Proofs.YtbpbniemjjhecaaGreat.G
end
section
namespace Go.Proofs.YtbpbniemjjhecaaGreat.G
set_option linter.unusedVariables false
set_option linter.unusedSimpArgs false
open Go.RowKit Go.Maps Go.Proofs.YtbpbniemjjhecaaGreat.GM Go.Proofs.YtbpbniemjjhecaaGreat.GT Go.Proofs.YtbpbniemjjhecaaGreat.PChk Go.Proofs.YtbpbniemjjhecaaGreat.PureC Go.Proofs.YtbpbniemjjhecaaGreatW.PrintWords Go.Proofs.YtbpbniemjjhecaaGreatW.PrintLast Go.Proofs.YtbpbniemjjhecaaGreatW.PrintMore
def smallN (s : ByteArray) (a : Nat) : Nat := ((s.data.toList.drop a).takeWhile fun b => classN (b.toNat : Int) == 1).length
theorem bt_at (s : ByteArray) (n : Nat) (h : n < s.size) : bt s n = (s[n].toNat : Int) := by simp [bt, h]
theorem smallN_at {s : ByteArray} {a : Nat} (h : a < s.size) : smallN s a = if classN (s[a].toNat : Int) = 1 then smallN s (a + 1) + 1 else 0 := by
 have e : s.data.toList.drop a = s[a] :: s.data.toList.drop (a + 1) := by
  rw [List.drop_eq_getElem_cons (by simpa using h)]
  rfl
 unfold smallN
 rw [e, List.takeWhile_cons]
 by_cases hc : classN (s[a].toNat : Int) = 1
 ·
  rw [if_pos hc, if_pos (by rw [hc]; rfl)]; rfl
 ·
  rw [if_neg hc, if_neg (by rw [beq_iff_eq]; exact hc)]; rfl
theorem smallN_end {s : ByteArray} {a : Nat} (h : s.size ≤ a) : smallN s a = 0 := by
 unfold smallN
 rw [List.drop_of_length_le (by simpa using h)]
 rfl
theorem smallN_le (s : ByteArray) (a : Nat) : smallN s a ≤ s.size - a := by
 unfold smallN
 have h := (List.takeWhile_sublist (fun b : UInt8 => classN (b.toNat : Int) == 1) (l := s.data.toList.drop a)).length_le
 rw [List.length_drop] at h
 simpa using h
theorem small_go (s : ByteArray) (hs : s.size ≤ 1000000) (a : Nat) : ∀ (d k j : Nat), s.size - (a + j) ≤ d → d + 1 ≤ k → a + j ≤ s.size → chunk_small.l0 k s (a : Int) (j : Int) = some ((j + smallN s (a + j) : Nat) : Int)
 | d, 0, j, _, hk, _ => by omega
 | d, k + 1, j, hd, hk, hj => by
  have hw : wrap64 ((a : Int) + (j : Int)) = ((a + j : Nat) : Int) := by unfold wrap64; omega
  rw [chunk_small.l0, hw]
  by_cases hlt : a + j < s.size
  ·
   rw [if_pos (by omega), if_pos (by omega), bt_at s (a + j) hlt, class_check, Option.bind_some, smallN_at hlt]
   by_cases hc : classN (s[a + j].toNat : Int) = 1
   ·
    rw [if_pos hc, if_pos hc, show wrap64 ((j : Int) + 1) = ((j + 1 : Nat) : Int) from by unfold wrap64; omega]
    cases d with
    | zero => omega
    | succ d =>
     rw [small_go s hs a d k (j + 1) (by omega) (by omega) (by omega)]
     rw [show a + (j + 1) = a + j + 1 from by omega, show j + 1 + smallN s (a + j + 1) = j + (smallN s (a + j + 1) + 1) from by omega]
   ·
    rw [if_neg hc, if_neg hc]; rfl
  ·
   rw [if_neg (by omega), smallN_end (by omega)]; rfl
theorem small_is (s : ByteArray) (hs : s.size ≤ 1000000) (a k : Nat) (ha : a ≤ s.size) (hk : s.size + 2 ≤ k) : chunk_small.f k s (a : Int) = some (smallN s a : Int) := by
 unfold chunk_small.f
 have h := small_go s hs a s.size k 0 (by omega) (by omega) (by omega)
 simpa using h
def leftN (l : List Rl) (i : Int) : Nat := (rd_T50 l i).f1.size
def allPc (l : List Rl) (frm : Int) : Nat → List Int → List Pc
 | _, [] => []
 | a, i :: r => (⟨i, frm + (a : Int), (leftN l i : Int)⟩ : Pc) :: allPc l frm (a + leftN l i) r
def allEnd (l : List Rl) : Nat → List Int → Nat
 | a, [] => a
 | a, i :: r => allEnd l (a + leftN l i) r
def signI (l : List Rl) (name : ByteArray) : Int := (findO (some (some l)) 8 name).getD 0
def capName : ByteArray := ⟨#[99, 97, 112]⟩
def capsName : ByteArray := ⟨#[99, 97, 112, 115]⟩
def runGo (l : List Rl) (s : ByteArray) (frm : Int) : Nat → Nat → List Pc
 | 0, _ => []
 | k + 1, a => if a < s.size then
   (if caseF (s.extract a s.size) = 3 then (⟨signI l capsName, frm + (a : Int), 0⟩ : Pc) :: (allPc l frm a (allF l (lowS s) (a : Int)) ++ runGo l s frm k (allEnd l a (allF l (lowS s) (a : Int))))
   else if smallN s a = 0 then (⟨signI l capName, frm + (a : Int), 0⟩ : Pc) :: (⟨bestI l (lowS s) (a : Int) (1 + (smallN s (a + 1) : Int)), frm + (a : Int), (leftN l (bestI l (lowS s) (a : Int) (1 + (smallN s (a + 1) : Int))) : Int)⟩ : Pc) :: runGo l s frm k (a + leftN l (bestI l (lowS s) (a : Int) (1 + (smallN s (a + 1) : Int))))
   else (⟨bestI l (lowS s) (a : Int) (smallN s a : Int), frm + (a : Int), (leftN l (bestI l (lowS s) (a : Int) (smallN s a : Int)) : Int)⟩ : Pc) :: runGo l s frm k (a + leftN l (bestI l (lowS s) (a : Int) (smallN s a : Int))))
  else []
structure RunOk (l : List Rl) (s : ByteArray) : Prop where
 caps : ∀ a, a < s.size → caseF (s.extract a s.size) = 3 → a < allEnd l a (allF l (lowS s) (a : Int)) ∧ allEnd l a (allF l (lowS s) (a : Int)) ≤ s.size ∧ (allF l (lowS s) (a : Int)).length ≤ 100000 ∧ ∀ i ∈ allF l (lowS s) (a : Int), 0 ≤ i ∧ i < l.length
 step : ∀ a m, a < s.size → 1 ≤ m → m ≤ s.size - a → 1 ≤ leftN l (bestI l (lowS s) (a : Int) (m : Int)) ∧ a + leftN l (bestI l (lowS s) (a : Int) (m : Int)) ≤ s.size
theorem allEnd_le (l : List Rl) : ∀ (r : List Int) (a : Nat), a ≤ allEnd l a r
 | [], a => Nat.le_refl _
 | i :: r, a => Nat.le_trans (Nat.le_add_right _ _) (allEnd_le l r (a + leftN l i))
theorem ints_same {w W : World} {A : Option Addr} {n : Nat} {xs : List Int} (h : Kd.C (Kd.int .i64) w A n xs) (hb : ∀ ad, A = some ad → W.heap[ad.block]? = w.heap[ad.block]?) : Kd.C (Kd.int .i64) W A n xs :=
 ⟨h.1, h.2.1, fun hn => by
  obtain ⟨ad, e, hc⟩ := h.2.2 hn
  refine ⟨ad, e, fun j p hj => ?_⟩
  obtain ⟨c, hs, hr, hcell⟩ := hc j p hj
  refine ⟨c, hs, hr, fun i u hu => ?_⟩
  rw [← hcell i u hu]
  have hh : W.heap[(ad.add (j * (Kd.int .i64).sz + i)).block]? = w.heap[(ad.add (j * (Kd.int .i64).sz + i)).block]? := by rw [add_block]; exact hb ad e
  simp only [World.cell?, hh]⟩
end Go.Proofs.YtbpbniemjjhecaaGreat.G
end
