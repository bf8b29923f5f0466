import Derived.Test.YtbpbniemjjhecaaGreatZGChunk3
import Derived.Test.YtbpbniemjjhecaaGreatZPureCaseL
import Derived.Test.YtbpbniemjjhecaaGreatZGOpChunk
import Derived.Test.YtbpbniemjjhecaaGreatZPChk0
import Derived.Test.YtbpbniemjjhecaaGreatZGChunkAw
import Derived.Test.YtbpbniemjjhecaaGreatZPChk23
import Derived.Test.YtbpbniemjjhecaaGreatZPChk14
import Derived.Test.YtbpbniemjjhecaaGreatProg
import Derived.Below
import Derived.Deep.Draws
import Derived.Deep.AppendLies
import Derived.Maps.AppendAt
import Derived.OwnWalk
import Derived.Laws.BytesArg
import Derived.Laws.MakeOwn
import Derived.Laws.OwnMore
import Derived.Deep.OwnRows
import Derived.Tactics
import Derived.Lib.ConvBytes
import Derived.Laws.Slices
import Derived.WalkKit
import Derived.KernelRfl
import Derived.RowKit3
import Derived.Deep.LoopGhost
import Derived.Deep.QuietTactic
import Derived.BigQuiet
import Derived.WideLaws
import Derived.Deep.DeepCutAuto
import Derived.Deep.CutBlock
import Derived.Deep.RegionHeld3
import Derived.Laws.Rows
import Derived.Lib.AppendStr
import Derived.ArgAppend
import Derived.Laws.IdiomCopy
import Derived.OrdersHeld
import Derived.Laws.BitsLemmas
import Derived.RowKit
import Derived.Test.YtbpbniemjjhecaaGreatZGCharsCase
import Derived.Test.YtbpbniemjjhecaaGreatZPChk24
import Derived.Test.YtbpbniemjjhecaaGreatZWSized
section
namespace Go.Proofs.YtbpbniemjjhecaaGreat.PureC
open Go.RowKit Go.Proofs.YtbpbniemjjhecaaGreat.PChk Go.Proofs.YtbpbniemjjhecaaGreat.G Go.Proofs.YtbpbniemjjhecaaGreat.GT Go.Proofs.YtbpbniemjjhecaaGreatW.PrintWords Go.Proofs.YtbpbniemjjhecaaGreatW.PrintLast
set_option linter.unusedSimpArgs false
theorem low_256 : ∀ n : Fin 256, (classN (n.val : Int) = 1 ∨ classN (n.val : Int) = 2) → classN ((lowN (UInt8.ofNat n.val)).toNat : Int) = 1 := by decide +kernel
theorem ofNat_toNat (b : UInt8) : UInt8.ofNat b.toNat = b := by simp
theorem lt_low (b : UInt8) (h : ltC b = true) : classN ((lowN b).toNat : Int) = 1 := by
 have h2 := low_256 ⟨b.toNat, b.toNat_lt⟩ (by unfold ltC loC upC at h; rw [Bool.or_eq_true, beq_iff_eq, beq_iff_eq] at h; exact h)
 simp only [ofNat_toNat] at h2
 exact h2
theorem low_list (s : ByteArray) : (lowS s).data.toList = s.data.toList.map lowN := by unfold lowS; simp
theorem low_small {s : ByteArray} (h : s.data.toList.all ltC = true) : smallB (lowS s) = true := by
 unfold smallB
 rw [low_list, List.all_map, List.all_eq_true]
 intro b hb
 rw [List.all_eq_true] at h
 exact beq_iff_eq.2 (lt_low b (h b hb))
theorem low_case {s : ByteArray} (hs : s.size ≤ 1000000) (h : s.data.toList.all ltC = true) (h0 : 0 < s.size) : caseF (lowS s) = 1 := by
 have h1 := case_small (lowS s) (by rw [low_size]; omega)
 rw [low_small h, low_size, decide_eq_true h0] at h1
 exact beq_iff_eq.1 h1
theorem spot_low {s : ByteArray} (hs : s.size ≤ 1000000) (h : s.data.toList.all ltC = true) {a : Nat} (ha : a < s.size) : spotB (lowS s) (a : Int) = true := by
 unfold spotB
 rw [if_pos (low_case hs h (by omega)), if_pos (by omega), low_size]
 exact decide_eq_true (by omega)
structure Taken (l : List Rl) (s : ByteArray) (a m : Nat) (i : Int) (x : Rl) : Prop where
 nat : 0 ≤ i
 lt : i < l.length
 at_ : l[i.toNat]? = some x
 one : 1 ≤ x.f1.size
 most : x.f1.size ≤ m
 fit : a + x.f1.size ≤ s.size
 left : x.f1 = (lowS s).extract a (a + x.f1.size)
 may : mayP s.size (a : Int) x.f0 (x.f1.size : Int) = true
theorem Taken.leftN {l : List Rl} {s : ByteArray} {a m : Nat} {i : Int} {x : Rl} (h : Taken l s a m i x) : leftN l i = x.f1.size := by
 unfold G.leftN rd_T50
 rw [List.getD_eq_getElem?_getD, h.at_]
 rfl
theorem taken_of {l : List Rl} {s : ByteArray} {a m : Nat} {i : Int} {x : Rl} (ha : a < s.size) (hb : bestS l (lowS s) (a : Int) (upTo (lowS s) (a : Int) (m : Int)) = some (x, i)) : Taken l s a m i x := by
 obtain ⟨b1, b2, b3, b4, b5, b6, b7⟩ := best_at l (lowS s) (a : Int) (m : Int) x i (by omega) (by rw [low_size]; omega) hb
 have hu := (upTo_le (lowS s) (a : Int) (m : Int) (by rw [low_size]; omega)).2.2 (by omega)
 rw [low_size] at b4 b6
 refine ⟨b2, ?_, b1, b3, by omega, by omega, ?_, b6⟩
 ·
  have := (List.getElem?_eq_some_iff.1 b1).1; omega
 ·
  rw [show ((a : Int) + (x.f1.size : Int)).toNat = a + x.f1.size from by omega, show ((a : Int)).toNat = a from by omega] at b5
  exact b5
theorem best_run {l : List Rl} (hw : Whole l) {s : ByteArray} (hs : s.size ≤ 1000000) (hL : s.data.toList.all ltC = true) {a m : Nat} (ha : a < s.size) (hm : 1 ≤ m) : ∃ x, Taken l s a m (bestI l (lowS s) (a : Int) (m : Int)) x := by
 have hsp := spot_low hs hL ha
 obtain ⟨x, i, hb⟩ := best_some hw (by rw [low_size]; omega) hsp (by omega : (0 : Int) < (m : Int))
 have hI : bestI l (lowS s) (a : Int) (m : Int) = i := by
  unfold bestI bestO
  rw [if_pos hsp, hb]; rfl
 rw [hI]
 exact ⟨x, taken_of ha hb⟩
theorem all_run {l : List Rl} (hw : Whole l) {s : ByteArray} (hs : s.size ≤ 1000000) (hL : s.data.toList.all ltC = true) {a : Nat} (ha : a < s.size) : ∃ x i, Taken l s a s.size i x ∧ allF l (lowS s) (a : Int) = i :: allF l (lowS s) ((a + x.f1.size : Nat) : Int) := by
 obtain ⟨x, i, hb, he⟩ := all_cons (l := l) hw (run := lowS s) (a := (a : Int)) (by rw [low_size]; omega) (spot_low hs hL ha)
 rw [low_size] at hb
 refine ⟨x, i, taken_of ha hb, ?_⟩
 rw [he]
 congr 2
theorem all_stop {l : List Rl} {s : ByteArray} {a : Nat} (ha : s.size ≤ a) : allF l (lowS s) (a : Int) = [] := by
 refine all_nil ?_
 cases h : spotB (lowS s) (a : Int) with
 | false => rfl
 | true =>
  have := spotB_at h
  rw [low_size] at this
  omega
theorem all_ends {l : List Rl} (hw : Whole l) {s : ByteArray} (hs : s.size ≤ 1000000) (hL : s.data.toList.all ltC = true) : ∀ (n a : Nat), s.size - a ≤ n → a ≤ s.size → allEnd l a (allF l (lowS s) (a : Int)) = s.size ∧ (allF l (lowS s) (a : Int)).length ≤ n ∧ ∀ i ∈ allF l (lowS s) (a : Int), 0 ≤ i ∧ i < l.length
 | n, a, hn, ha => by
  by_cases hlt : a < s.size
  ·
   obtain ⟨x, i, ht, he⟩ := all_run (l := l) hw hs hL hlt
   have h1 := ht.one
   have h2 := ht.fit
   cases n with
   | zero => omega
   | succ n =>
    obtain ⟨i1, i2, i3⟩ := all_ends (l := l) hw hs hL n (a + x.f1.size) (by omega) h2
    rw [he, allEnd, ht.leftN, List.length_cons]
    refine ⟨i1, by omega, fun j hj => ?_⟩
    rcases List.mem_cons.1 hj with rfl | hj
    ·
     exact ⟨ht.nat, ht.lt⟩
    ·
     exact i3 j hj
  ·
   rw [all_stop (by omega)]
   exact ⟨by rw [allEnd]; omega, Nat.zero_le _, fun j hj => by cases hj⟩
theorem run_ok {l : List Rl} (hw : Whole l) {s : ByteArray} (hs : s.size ≤ 100000) (hL : s.data.toList.all ltC = true) : RunOk l s := by
 constructor
 ·
  intro a ha _
  obtain ⟨h1, h2, h3⟩ := all_ends (l := l) hw (by omega) hL (s.size - a) a (Nat.le_refl _) (by omega)
  exact ⟨by omega, by omega, by omega, h3⟩
 ·
  intro a m ha hm _
  obtain ⟨x, ht⟩ := best_run (l := l) hw (by omega) hL ha hm
  rw [ht.leftN]
  exact ⟨ht.one, ht.fit⟩
end Go.Proofs.YtbpbniemjjhecaaGreat.PureC
end
section
namespace Go.Proofs.YtbpbniemjjhecaaGreat.PChk
open Go.RowKit Go.Proofs.YtbpbniemjjhecaaGreat.G Go.Proofs.YtbpbniemjjhecaaGreat.PChk Go.Proofs.YtbpbniemjjhecaaGreatW.PrintWords Go.Proofs.YtbpbniemjjhecaaGreatW.PrintLast Go.Proofs.YtbpbniemjjhecaaGreatW.PrintMore
attribute [local go_sem] max2_int min2_int max_two min_two max_three min_three max_four min_four
set_option linter.unusedVariables false
set_option linter.unusedSimpArgs false
def pCells.f (k : Nat) (l0 : List (S50)) (l1 : List (S48)) (a2 : Tr) : Option (Bool) := if 0 = 0 then ((chunk_Cells.f a2 l1).bind fun t101 => ((r12_Cells.f k l0 l1).bind fun t102 => (if t101.toList = t102.toList then ((chunk_Cells.f Tr.none l1).bind fun t103 => (if t103.toList = ([] : List UInt8) then ((w12_awake.f).bind fun t104 => (some t104)) else (some false))) else (some false)))) else (some false)
end Go.Proofs.YtbpbniemjjhecaaGreat.PChk
end
section
namespace Go.Proofs.YtbpbniemjjhecaaGreat.PureC
open Go.RowKit Go.Proofs.YtbpbniemjjhecaaGreat.PChk Go.Proofs.YtbpbniemjjhecaaGreat.G Go.Proofs.YtbpbniemjjhecaaGreat.GT Go.Proofs.YtbpbniemjjhecaaGreatW.PrintWords Go.Proofs.YtbpbniemjjhecaaGreatW.PrintLast
set_option linter.unusedSimpArgs false
theorem pc_at (l : List Pc) (i : Nat) (h : i < l.length) : rd_T48 l (i : Int) = l[i] := by simp [rd_T48, h]
theorem acc_size (a : List UInt8) : (⟨a.toArray⟩ : ByteArray).size = a.length := by simp [ByteArray.size]
theorem acc_add (a : List UInt8) (s : ByteArray) : (⟨a.toArray⟩ : ByteArray) ++ s = ⟨(a ++ s.data.toList).toArray⟩ := by
 apply ByteArray.ext
 simp
theorem rd_short {l : List Rl} (hs : ∀ x ∈ l, x.f2.size ≤ 1000) (i : Int) : (rd_T50 l i).f2.size ≤ 1000 := by
 unfold rd_T50
 cases h : l[i.toNat]? with
 | none => simp [h]; decide
 | some x => simp [h]; exact hs x (List.mem_of_getElem? h)
end Go.Proofs.YtbpbniemjjhecaaGreat.PureC
end
section
namespace Go.Proofs.YtbpbniemjjhecaaGreat.PureC
open Go.RowKit Go.Proofs.YtbpbniemjjhecaaGreat.PChk Go.Proofs.YtbpbniemjjhecaaGreat.G Go.Proofs.YtbpbniemjjhecaaGreat.GT Go.Proofs.YtbpbniemjjhecaaGreatW.PrintWords Go.Proofs.YtbpbniemjjhecaaGreatW.PrintLast
set_option linter.unusedSimpArgs false
set_option linter.unusedVariables false
def tb (t : Tk) : UInt8 := UInt8.ofNat t.f1.toNat
theorem tb_nat {t : Tk} (h : okTk t) : ((tb t).toNat : Int) = t.f1 := by
 unfold tb
 rw [UInt8.toNat_ofNat']
 have := h.1
 have := h.2
 omega
def okZ (q : Int) (h : Bool) (nm : ByteArray) : Bool :=
 decide (nm = capName) && q != 3 && !h || decide (nm = capsName) && q != 3 && !h || decide (nm = letName) && q == 3 || decide (nm = numName) && q != 3
def nq (q : Int) (nm : ByteArray) : Int := if nm = letName then 1 else if nm = numName then 3 else q
def nh (nm : ByteArray) : Bool := decide (nm = capsName)
def nd (nm : ByteArray) : Bool := decide (nm = capName)
def oneP (q : Int) (x : Rl) (t : Tk) : Prop :=
 (x.f0 = 7 ∧ q = 3 ∧ t.f0 = 1 ∧ x.f1 = oneS t.f1 ∧ lowN (tb t) = tb t) ∨ (x.f0 = 6 ∧ t.f0 = 1 ∧ x.f1 = oneS t.f1 ∧ lowN (tb t) = tb t) ∨ (x.f0 = 8 ∧ t.f0 ≠ 1 ∧ x.f1 = markF t ∧ (markF t).toList ≠ [])
inductive Sp (l : List Rl) (toks : List Tk) : Nat → Int → Bool → Bool → List Pc → Prop
 | done (q : Int) (h : Bool) : Sp l toks toks.length q h false []
 | zero (a : Nat) (q : Int) (h : Bool) (i : Int) (x : Rl) (ps : List Pc) (h0 : 0 ≤ i) (hx : l[i.toNat]? = some x) (h8 : x.f0 = 8) (hq : 1 ≤ q ∧ q ≤ 3) (hz : okZ q h x.f1 = true) (hr : Sp l toks a (nq q x.f1) (nh x.f1) (nd x.f1) ps) : Sp l toks a q h false (⟨i, (a : Int), 0⟩ :: ps)
 | lets (a : Nat) (q : Int) (h d : Bool) (i : Int) (x : Rl) (ps : List Pc) (h0 : 0 ≤ i) (hx : l[i.toNat]? = some x) (hq : inB x.f0 q = true) (h4 : 1 ≤ x.f0 ∧ x.f0 ≤ 4) (h1 : 1 ≤ x.f1.size) (hf : a + x.f1.size ≤ toks.length)
   (hc : ∀ j, j < x.f1.size → ∃ t, toks[a + j]? = some t ∧ t.f0 = 1 ∧ x.f1.data.toList[j]? = some (lowN (tb t)) ∧ upC (tb t) = (h || (d && j == 0))) (hr : Sp l toks (a + x.f1.size) 2 h false ps) : Sp l toks a q h d (⟨i, (a : Int), (x.f1.size : Int)⟩ :: ps)
 | tok (a : Nat) (q : Int) (h : Bool) (i : Int) (x : Rl) (t : Tk) (ps : List Pc) (h0 : 0 ≤ i) (hx : l[i.toNat]? = some x) (hq : 1 ≤ q ∧ q ≤ 3) (ht : toks[a]? = some t) (ho : oneP q x t) (hr : Sp l toks (a + 1) (if x.f0 = 7 then 3 else 1) false false ps) : Sp l toks a q h false (⟨i, (a : Int), 1⟩ :: ps)
def cellsP (l : List Rl) (p : Pc) : List UInt8 := (rd_T50 l p.f0).f2.data.toList
def cellsL (l : List Rl) (ps : List Pc) : List UInt8 := ps.flatMap (cellsP l)
theorem rule_at {l : List Rl} {i : Int} {x : Rl} (h : l[i.toNat]? = some x) : rd_T50 l i = x := by
 unfold rd_T50
 rw [List.getD_eq_getElem?_getD, h]; rfl
theorem names_size {q : Int} {h : Bool} {nm : ByteArray} (hz : okZ q h nm = true) : nm = capName ∨ nm = capsName ∨ nm = letName ∨ nm = numName := by
 unfold okZ at hz
 simp only [Bool.or_eq_true, Bool.and_eq_true, decide_eq_true_eq] at hz
 rcases hz with ((h | h) | h) | h
 ·
  exact .inl h.1.1
 ·
  exact .inr (.inl h.1.1)
 ·
  exact .inr (.inr (.inl h.1))
 ·
  exact .inr (.inr (.inr h.1))
end Go.Proofs.YtbpbniemjjhecaaGreat.PureC
end
section
namespace Go.Proofs.YtbpbniemjjhecaaGreat.PureC
open Go.RowKit Go.Proofs.YtbpbniemjjhecaaGreat.PChk Go.Proofs.YtbpbniemjjhecaaGreat.G Go.Proofs.YtbpbniemjjhecaaGreat.GT Go.Proofs.YtbpbniemjjhecaaGreatW.PrintWords Go.Proofs.YtbpbniemjjhecaaGreatW.PrintLast
set_option linter.unusedSimpArgs false
set_option linter.unusedVariables false
theorem find_wanted {l : List Rl} (hA : Apart l) (hw : Whole l) {what : Int} {left : ByteArray} (hm : wRule what left ∈ wantedL) : ∃ x, 0 ≤ ruleI l what left ∧ l[(ruleI l what left).toNat]? = some x ∧ x.f0 = what ∧ x.f1 = left := by
 have h := hw _ hm
 rw [List.any_eq_true] at h
 obtain ⟨x, hx, he⟩ := h
 unfold isOf wRule at he
 rw [Bool.and_eq_true, beq_iff_eq, beq_iff_eq] at he
 obtain ⟨i, hi, rfl⟩ := List.getElem_of_mem hx
 have e1 : l[i].f1 = left := bytes_ext he.2
 have hf := found_left hA i l[i] (List.getElem?_eq_getElem hi)
 rw [he.1, e1] at hf
 have hr : ruleI l what left = (i : Int) := by unfold ruleI; rw [hf]; rfl
 rw [hr]
 exact ⟨l[i], by omega, List.getElem?_eq_getElem hi, he.1, e1⟩
theorem mem_sign {nm : ByteArray} (h : nm ∈ wNames) : wRule 8 nm ∈ wantedL := List.mem_append_right _ (List.mem_map_of_mem h)
theorem cap_in : capName ∈ wNames := .head _
theorem caps_in : capsName ∈ wNames := .tail _ (.head _)
theorem num_in : numName ∈ wNames := .tail _ (.tail _ (.head _))
theorem let_in : letName ∈ wNames := .tail _ (.tail _ (.tail _ (.head _)))
theorem mark_in {t : Tk} (h : (markF t).toList ≠ []) : markF t ∈ wNames := by
 unfold markF at *
 split at h
 ·
  rename_i h1
  rw [if_pos h1]
  split at h
  ·
   rename_i h2
   rw [if_pos h2]
   rcases h1 with e | e | e <;> rw [e]
   ·
    exact .tail _ (.tail _ (.tail _ (.tail _ (.head _))))
   ·
    exact .tail _ (.tail _ (.tail _ (.tail _ (.tail _ (.tail _ (.head _))))))
   ·
    exact .tail _ (.tail _ (.tail _ (.tail _ (.tail _ (.tail _ (.tail _ (.tail _ (.head _))))))))
  ·
   rename_i h2
   rw [if_neg h2]
   split at h
   ·
    rename_i h3
    rw [if_pos h3]
    rcases h1 with e | e | e <;> rw [e]
    ·
     exact .tail _ (.tail _ (.tail _ (.tail _ (.tail _ (.head _)))))
    ·
     exact .tail _ (.tail _ (.tail _ (.tail _ (.tail _ (.tail _ (.tail _ (.head _)))))))
    ·
     exact .tail _ (.tail _ (.tail _ (.tail _ (.tail _ (.tail _ (.tail _ (.tail _ (.tail _ (.head _)))))))))
   ·
    exact absurd (show (⟨#[]⟩ : ByteArray).toList = [] from toList_data _) h
 ·
  exact absurd (show (⟨#[]⟩ : ByteArray).toList = [] from toList_data _) h
theorem dig_256 : ∀ n : Fin 256, classN (n.val : Int) = 3 → 48 ≤ n.val ∧ n.val ≤ 57 ∧ lowN (UInt8.ofNat n.val) = UInt8.ofNat n.val := by decide +kernel
theorem mrk_256 : ∀ n : Fin 256, classN (n.val : Int) = 4 → wMarks.contains (UInt8.ofNat n.val) = true ∧ lowN (UInt8.ofNat n.val) = UInt8.ofNat n.val := by decide +kernel
theorem oneS_is (c : Int) : oneS c = ⟨#[UInt8.ofNat c.toNat]⟩ := rfl
theorem dig_in {t : Tk} (ho : okTk t) (h : classN t.f1 = 3) : wRule 7 (oneS t.f1) ∈ wantedL ∧ lowN (tb t) = tb t := by
 obtain ⟨n, hn⟩ : ∃ n : Nat, t.f1 = (n : Int) := ⟨t.f1.toNat, by have := ho.1; omega⟩
 have hb := ho.2
 rw [hn] at h hb
 obtain ⟨h1, h2, h3⟩ := dig_256 ⟨n, by omega⟩ h
 simp only at h1 h2 h3
 refine ⟨?_, by unfold tb; rw [hn]; exact h3⟩
 refine List.mem_append_left _ (List.mem_append_right _ ?_)
 unfold wBytes
 rw [oneS_is, hn]
 refine List.mem_map.2 ⟨UInt8.ofNat n, ?_, rfl⟩
 unfold G.upB
 exact List.mem_map.2 ⟨n - 48, List.mem_range.2 (by omega), by rw [show 48 + (n - 48) = n from by omega]⟩
theorem mrk_in {t : Tk} (ho : okTk t) (h : classN t.f1 = 4) : wRule 6 (oneS t.f1) ∈ wantedL ∧ lowN (tb t) = tb t := by
 obtain ⟨n, hn⟩ : ∃ n : Nat, t.f1 = (n : Int) := ⟨t.f1.toNat, by have := ho.1; omega⟩
 have hb := ho.2
 rw [hn] at h hb
 obtain ⟨h1, h3⟩ := mrk_256 ⟨n, by omega⟩ h
 simp only at h1 h3
 refine ⟨?_, by unfold tb; rw [hn]; exact h3⟩
 refine List.mem_append_left _ (List.mem_append_left _ (List.mem_append_right _ ?_))
 unfold wBytes
 rw [oneS_is, hn]
 exact List.mem_map.2 ⟨UInt8.ofNat n, by simpa using h1, rfl⟩
structure RunAt (toks : List Tk) (i : Nat) (s : ByteArray) : Prop where
 fit : i + s.size ≤ toks.length
 get : ∀ j, j < s.size → ∃ t, toks[i + j]? = some t ∧ t.f0 = 1 ∧ s.data.toList[j]? = some (tb t) ∧ ltC (tb t) = true
theorem RunAt.all {toks : List Tk} {i : Nat} {s : ByteArray} (h : RunAt toks i s) : s.data.toList.all ltC = true := by
 rw [List.all_eq_true]
 intro b hb
 obtain ⟨j, hj, rfl⟩ := List.getElem_of_mem hb
 obtain ⟨t, _, _, h3, h4⟩ := h.get j (by simpa using hj)
 rw [List.getElem?_eq_getElem hj] at h3
 rw [Option.some.inj h3]; exact h4
theorem lets_take : ∀ (l : List Tk) (j : Nat), j < lets l → ∃ t, l[j]? = some t ∧ letB t = true
 | [], j, h => by simp [lets] at h
 | t :: l, j, h => by
  unfold lets at h
  rw [List.takeWhile_cons] at h
  cases ht : letB t with
  | true =>
   rw [ht, if_pos rfl, List.length_cons] at h
   cases j with
   | zero => exact ⟨t, rfl, ht⟩
   | succ j => exact lets_take l j (by unfold lets; omega)
  | false => rw [ht, if_neg (by decide)] at h; simp at h
theorem lets_stop : ∀ (l : List Tk) (t : Tk), l[lets l]? = some t → letB t = false
 | [], t, h => by simp at h
 | x :: l, t, h => by
  unfold lets at h
  rw [List.takeWhile_cons] at h
  cases hx : letB x with
  | true =>
   rw [hx, if_pos rfl, List.length_cons, List.getElem?_cons_succ] at h
   exact lets_stop l t h
  | false =>
   rw [hx, if_neg (by decide)] at h
   simp at h
   rw [← h]; exact hx
theorem lets_le (l : List Tk) : lets l ≤ l.length := (List.takeWhile_sublist _).length_le
theorem let_class {t : Tk} (ho : okTk t) (h : letB t = true) : t.f0 = 1 ∧ ltC (tb t) = true := by
 unfold letB at h
 rw [Bool.and_eq_true, beq_iff_eq] at h
 refine ⟨h.1, ?_⟩
 unfold ltC loC upC
 rw [tb_nat ho]
 exact h.2
theorem run_at {toks : List Tk} (ho : ∀ t ∈ toks, okTk t) (i : Nat) (hi : i ≤ toks.length) : (G.runT toks i (lets (toks.drop i))).size = lets (toks.drop i) ∧ RunAt toks i (G.runT toks i (lets (toks.drop i))) := by
 have hl := lets_le (toks.drop i)
 rw [List.length_drop] at hl
 have hsz : (G.runT toks i (lets (toks.drop i))).size = lets (toks.drop i) := by
  unfold G.runT
  rw [str_size, List.length_map, List.length_take, List.length_drop]; omega
 refine ⟨hsz, by omega, fun j hj => ?_⟩
 obtain ⟨t, h1, h2⟩ := lets_take (toks.drop i) j (by omega)
 rw [List.getElem?_drop] at h1
 have hot := ho t (List.mem_of_getElem? h1)
 obtain ⟨h3, h4⟩ := let_class hot h2
 refine ⟨t, h1, h3, ?_, h4⟩
 unfold G.runT strOfNums
 simp only [List.map_map, List.getElem?_map]
 rw [List.getElem?_take, if_pos (by omega), List.getElem?_drop, h1]
 rfl
theorem ext_list (s : ByteArray) (a n : Nat) (h : a + n ≤ s.size) (j : Nat) (hj : j < n) : (s.extract a (a + n)).data.toList[j]? = s.data.toList[a + j]? := by
 have h1 : s.data.toList.length = s.size := by simp
 simp only [ByteArray.data_extract, Array.toList_extract, List.extract_eq_take_drop]
 rw [List.getElem?_take, if_pos (by omega), List.getElem?_drop]
theorem may_row {sz : Nat} {a : Nat} {what n q : Int} (h : mayP sz (a : Int) what n = true) (hq : (a = 0 ∧ q = 1) ∨ (0 < a ∧ q = 2)) : inB what q = true ∧ 1 ≤ what ∧ what ≤ 4 := by
 have h4 := may_four h
 refine ⟨?_, h4⟩
 unfold mayP at h
 rcases hq with ⟨ha, rfl⟩ | ⟨ha, rfl⟩
 ·
  rcases (by omega : what = 1 ∨ what = 2 ∨ what = 3 ∨ what = 4) with rfl | rfl | rfl | rfl
  ·
   rfl
  ·
   rfl
  ·
   rw [if_neg (by decide), if_neg (by decide), if_pos rfl, decide_eq_true_eq] at h; omega
  ·
   rw [if_neg (by decide), if_neg (by decide), if_neg (by decide), if_pos rfl, Bool.and_eq_true, decide_eq_true_eq] at h; omega
 ·
  rcases (by omega : what = 1 ∨ what = 2 ∨ what = 3 ∨ what = 4) with rfl | rfl | rfl | rfl
  ·
   rfl
  ·
   rw [if_neg (by decide), if_pos rfl, beq_iff_eq] at h; omega
  ·
   rfl
  ·
   rfl
theorem sp_taken {l : List Rl} {toks : List Tk} {i : Nat} {s : ByteArray} (hr : RunAt toks i s) {a m : Nat} {k : Int} {x : Rl} (ht : Taken l s a m k x) {q : Int} {h d : Bool} {ps : List Pc} (hq : (a = 0 ∧ q = 1) ∨ (0 < a ∧ q = 2))
  (hup : ∀ j, j < x.f1.size → ∀ b, s.data.toList[a + j]? = some b → upC b = (h || (d && j == 0))) (hrest : Sp l toks (i + (a + x.f1.size)) 2 h false ps) : Sp l toks (i + a) q h d (⟨k, (i : Int) + (a : Int), (x.f1.size : Int)⟩ :: ps) := by
 obtain ⟨r1, r2⟩ := may_row ht.may hq
 rw [← Nat.add_assoc] at hrest
 have hfit := ht.fit
 have hrf := hr.fit
 refine Sp.lets (i + a) q h d k x ps ht.nat ht.at_ r1 r2 ht.one (by omega) (fun j hj => ?_) hrest
 obtain ⟨t, t1, t2, t3, t4⟩ := hr.get (a + j) (by omega)
 rw [← Nat.add_assoc] at t1
 refine ⟨t, t1, t2, ?_, hup j hj _ t3⟩
 have hl := ht.left
 have e := congrArg (fun b : ByteArray => b.data.toList[j]?) hl
 rw [ext_list (lowS s) a x.f1.size (by rw [low_size]; exact hfit) j hj, low_list, List.getElem?_map, t3] at e
 exact e
theorem sp_all {l : List Rl} (hw : Whole l) {toks : List Tk} {i : Nat} {s : ByteArray} (hs : s.size ≤ 100000) (hr : RunAt toks i s) {R : List Pc} (hR : Sp l toks (i + s.size) 2 true false R) : ∀ (n a : Nat) (q : Int), s.size - a ≤ n → a ≤ s.size → ((a = 0 ∧ q = 1 ∧ 0 < s.size) ∨ (0 < a ∧ q = 2)) → (∀ j, a ≤ j → ∀ b, s.data.toList[j]? = some b → upC b = true) → Sp l toks (i + a) q true false (allPc l (i : Int) a (allF l (lowS s) (a : Int)) ++ R)
 | n, a, q, hn, ha, hq, hup => by
  by_cases hlt : a < s.size
  ·
   obtain ⟨x, k, ht, he⟩ := all_run (l := l) hw (by omega) hr.all hlt
   have h1 := ht.one
   have h2 := ht.fit
   rw [he, allPc, ht.leftN, List.cons_append]
   cases n with
   | zero => omega
   | succ n =>
    refine sp_taken hr ht (hq.elim (fun h => .inl ⟨h.1, h.2.1⟩) .inr) (fun j hj b hb => by rw [hup _ (by omega) b hb]; rfl) ?_
    exact sp_all hw hs hr hR n (a + x.f1.size) 2 (by omega) h2 (.inr ⟨by omega, rfl⟩) (fun j hj => hup j (by omega))
  ·
   have hq2 : q = 2 := by rcases hq with h | h <;> omega
   rw [all_stop (by omega), allPc, List.nil_append, hq2, show a = s.size from by omega]
   exact hR
theorem small_take (s : ByteArray) (a : Nat) : ∀ j, j < smallN s a → ∃ b, s.data.toList[a + j]? = some b ∧ loC b = true := by
 intro j hj
 unfold smallN at hj
 have key : ∀ (L : List UInt8) (j : Nat), j < (L.takeWhile fun b => classN (b.toNat : Int) == 1).length → ∃ b, L[j]? = some b ∧ loC b = true := by
  intro L
  induction L with
  | nil => intro j h; simp at h
  | cons b L ih =>
   intro j h
   rw [List.takeWhile_cons] at h
   cases hb : classN (b.toNat : Int) == 1 with
   | true =>
    rw [hb, if_pos rfl, List.length_cons] at h
    cases j with
    | zero => exact ⟨b, rfl, hb⟩
    | succ j => exact ih j (by omega)
   | false => rw [hb, if_neg (by decide)] at h; simp at h
 obtain ⟨b, h1, h2⟩ := key _ j hj
 rw [List.getElem?_drop] at h1
 exact ⟨b, h1, h2⟩
theorem lo_up {b : UInt8} (h : loC b = true) : upC b = false := by
 unfold loC at h; unfold upC
 rw [beq_iff_eq] at h
 rw [h]; rfl
theorem case_three {L : List UInt8} (h : caseL L = 3) : ∀ b ∈ L, upC b = true := by
 unfold caseL at h
 split at h
 ·
  split at h
  ·
   exact absurd h (by decide)
  ·
   split at h
   ·
    exact absurd h (by decide)
   ·
    split at h
    ·
     exact absurd h (by decide)
    ·
     split at h
     ·
      rename_i hu
      exact List.countP_eq_length.1 hu
     ·
      exact absurd h (by decide)
 ·
  exact absurd h (by decide)
theorem case_ext {s : ByteArray} (hs : s.size ≤ 100000) {a : Nat} (ha : a ≤ s.size) : caseF (s.extract a s.size) = caseL (s.data.toList.drop a) := by
 rw [caseF_is _ (by rw [ByteArray.size_extract]; omega), ← toList_data, drop_list s a ha]
theorem runGo_end (l : List Rl) (s : ByteArray) (frm : Int) (k : Nat) : runGo l s frm k s.size = [] := by
 cases k with
 | zero => rfl
 | succ k => rw [runGo, if_neg (by omega)]
theorem ok_cap {q : Int} (h : (q != 3) = true) : okZ q false capName = true := by
 unfold okZ
 rw [h, decide_eq_true (rfl : capName = capName)]; simp
theorem ok_caps {q : Int} (h : (q != 3) = true) : okZ q false capsName = true := by
 unfold okZ
 rw [h, decide_eq_true (rfl : capsName = capsName)]; simp
theorem ok_num {q : Int} (b : Bool) (h : (q != 3) = true) : okZ q b numName = true := by
 unfold okZ
 rw [h, decide_eq_true (rfl : numName = numName)]; simp
theorem ok_let (b : Bool) : okZ 3 b letName = true := by
 unfold okZ
 rw [decide_eq_true (rfl : letName = letName)]; simp
theorem sp_run {l : List Rl} (hA : Apart l) (hw : Whole l) {toks : List Tk} {i : Nat} {s : ByteArray} (hs : s.size ≤ 100000) (hr : RunAt toks i s) {R : List Pc} (hR : ∀ h, Sp l toks (i + s.size) 2 h false R) : ∀ (k a : Nat) (q : Int), s.size - a < k → a ≤ s.size → ((a = 0 ∧ q = 1 ∧ 0 < s.size) ∨ (0 < a ∧ q = 2)) → Sp l toks (i + a) q false false (runGo l s (i : Int) k a ++ R)
 | 0, a, q, hk, _, _ => by omega
 | k + 1, a, q, hk, ha, hq => by
  have hq3 : 1 ≤ q ∧ q ≤ 3 := by rcases hq with h | h <;> omega
  have hqn : (q != 3) = true := by rw [bne_iff_ne]; rcases hq with h | h <;> omega
  have hq' : (a = 0 ∧ q = 1) ∨ (0 < a ∧ q = 2) := hq.elim (fun h => .inl ⟨h.1, h.2.1⟩) .inr
  by_cases hlt : a < s.size
  ·
   rw [runGo, if_pos hlt]
   by_cases h3 : caseF (s.extract a s.size) = 3
   ·
    rw [if_pos h3]
    rw [case_ext hs (by omega)] at h3
    have hup := case_three h3
    obtain ⟨x, x0, x1, x2, x3⟩ := find_wanted hA hw (mem_sign caps_in)
    obtain ⟨e1, _, _⟩ := all_ends (l := l) hw (by omega) hr.all (s.size - a) a (Nat.le_refl _) ha
    rw [e1, runGo_end, List.append_nil, List.cons_append]
    refine Sp.zero (i + a) q false _ x _ x0 x1 x2 hq3 (by rw [x3]; exact ok_caps hqn) ?_
    rw [x3]
    refine sp_all hw hs hr (hR true) (s.size - a) a q (Nat.le_refl _) ha hq (fun j hj b hb => hup b (List.mem_of_getElem? (i := j - a) ?_))
    rw [List.getElem?_drop, show a + (j - a) = j from by omega]; exact hb
   ·
    rw [if_neg h3]
    by_cases h0 : smallN s a = 0
    ·
     rw [if_pos h0]
     obtain ⟨x, x0, x1, x2, x3⟩ := find_wanted hA hw (mem_sign cap_in)
     obtain ⟨y, ht⟩ := best_run (l := l) (m := 1 + smallN s (a + 1)) hw (by omega) hr.all hlt (by omega)
     rw [show ((1 + smallN s (a + 1) : Nat) : Int) = 1 + (smallN s (a + 1) : Int) from by omega] at ht
     have h1 := ht.one
     have h2 := ht.fit
     have h4 := ht.most
     rw [ht.leftN, List.cons_append, List.cons_append]
     refine Sp.zero (i + a) q false _ x _ x0 x1 x2 hq3 (by rw [x3]; exact ok_cap hqn) ?_
     rw [x3]
     refine sp_taken hr ht hq' (fun j hj b hb => ?_) (sp_run hA hw hs hr hR k (a + y.f1.size) 2 (by omega) h2 (.inr ⟨by omega, rfl⟩))
     by_cases hj0 : j = 0
     ·
      subst hj0
      rw [smallN_at hlt] at h0
      split at h0
      ·
       omega
      ·
       rename_i hc
       have hl := List.all_eq_true.1 hr.all b (List.mem_of_getElem? hb)
       have hbe : b = s[a] := by
        rw [Nat.add_zero, List.getElem?_eq_getElem (by simpa using hlt)] at hb
        exact (Option.some.inj hb).symm
       unfold ltC loC at hl
       rw [hbe, Bool.or_eq_true, beq_iff_eq] at hl
       rw [hbe, hl.resolve_left hc]
       rfl
     ·
      obtain ⟨c, c1, c2⟩ := small_take s (a + 1) (j - 1) (by omega)
      rw [show a + 1 + (j - 1) = a + j from by omega, hb] at c1
      rw [Option.some.inj c1, lo_up c2]
      have : (j == 0) = false := by simpa using hj0
      rw [this]; rfl
    ·
     rw [if_neg h0]
     obtain ⟨y, ht⟩ := best_run (l := l) (m := smallN s a) hw (by omega) hr.all hlt (by omega)
     have h1 := ht.one
     have h2 := ht.fit
     have h4 := ht.most
     rw [ht.leftN, List.cons_append]
     refine sp_taken hr ht hq' (fun j hj b hb => ?_) (sp_run hA hw hs hr hR k (a + y.f1.size) 2 (by omega) h2 (.inr ⟨by omega, rfl⟩))
     obtain ⟨c, c1, c2⟩ := small_take s a j (by omega)
     rw [hb] at c1
     rw [Option.some.inj c1, lo_up c2]; rfl
  ·
   have hq2 : q = 2 := by rcases hq with h | h <;> omega
   rw [show a = s.size from by omega, runGo_end, List.nil_append, hq2]
   exact hR false
end Go.Proofs.YtbpbniemjjhecaaGreat.PureC
end
