import Derived.Test.YtbpbniemjjhecaaGreatZGChunk3
import Derived.Test.YtbpbniemjjhecaaGreatZPureCaseL
import Derived.Test.YtbpbniemjjhecaaGreatZGOpChunk
import Derived.Test.YtbpbniemjjhecaaGreatZPChk0
import Derived.Test.YtbpbniemjjhecaaGreatZGChunkAw
import Derived.Test.YtbpbniemjjhecaaGreatZPChk23
import Derived.Test.YtbpbniemjjhecaaGreatZPChk14
import Derived.Test.YtbpbniemjjhecaaGreatProg
import Derived.Below
import Derived.Deep.Draws
import Derived.Deep.AppendLies
import Derived.Maps.AppendAt
import Derived.OwnWalk
import Derived.Laws.BytesArg
import Derived.Laws.MakeOwn
import Derived.Laws.OwnMore
import Derived.Deep.OwnRows
import Derived.Tactics
import Derived.Lib.ConvBytes
import Derived.Laws.Slices
import Derived.WalkKit
import Derived.KernelRfl
import Derived.RowKit3
import Derived.Deep.LoopGhost
import Derived.Deep.QuietTactic
import Derived.BigQuiet
import Derived.WideLaws
import Derived.Deep.DeepCutAuto
import Derived.Deep.CutBlock
import Derived.Deep.RegionHeld3
import Derived.Laws.Rows
import Derived.Lib.AppendStr
import Derived.ArgAppend
import Derived.Laws.IdiomCopy
import Derived.OrdersHeld
import Derived.Laws.BitsLemmas
import Derived.RowKit
import Derived.Test.YtbpbniemjjhecaaGreatZGCharsCase
import Derived.Test.YtbpbniemjjhecaaGreatZPChk24
import Derived.Test.YtbpbniemjjhecaaGreatZWSized
section
namespace Go.Proofs.YtbpbniemjjhecaaGreat.PureC
open Go.RowKit Go.Proofs.YtbpbniemjjhecaaGreat.PChk Go.Proofs.YtbpbniemjjhecaaGreat.G Go.Proofs.YtbpbniemjjhecaaGreat.GT Go.Proofs.YtbpbniemjjhecaaGreatW.PrintWords Go.Proofs.YtbpbniemjjhecaaGreatW.PrintLast
set_option linter.unusedSimpArgs false
theorem low_256 : ∀ n : Fin 256, (classN (n.val : Int) = 1 ∨ classN (n.val : Int) = 2) → classN ((lowN (UInt8.ofNat n.val)).toNat : Int) = 1 := by decide +kernel
theorem ofNat_toNat (b : UInt8) : UInt8.ofNat b.toNat = b := by simp
theorem lt_low (b : UInt8) (h : ltC b = true) : classN ((lowN b).toNat : Int) = 1 := by
 have h2 := low_256 ⟨b.toNat, b.toNat_lt⟩ (by unfold ltC loC upC at h; rw [Bool.or_eq_true, beq_iff_eq, beq_iff_eq] at h; exact h)
 simp only [ofNat_toNat] at h2
 exact h2
theorem low_list (s : ByteArray) : (lowS s).data.toList = s.data.toList.map lowN := by unfold lowS; simp
theorem low_small {s : ByteArray} (h : s.data.toList.all ltC = true) : smallB (lowS s) = true := by
 unfold smallB
 rw [low_list, List.all_map, List.all_eq_true]
 intro b hb
 rw [List.all_eq_true] at h
 exact beq_iff_eq.2 (lt_low b (h b hb))
theorem low_case {s : ByteArray} (hs : s.size ≤ 1000000) (h : s.data.toList.all ltC = true) (h0 : 0 < s.size) : caseF (lowS s) = 1 := by
 have h1 := case_small (lowS s) (by rw [low_size]; omega)
 rw [low_small h, low_size, decide_eq_true h0] at h1
 exact beq_iff_eq.1 h1
theorem spot_low {s : ByteArray} (hs : s.size ≤ 1000000) (h : s.data.toList.all ltC = true) {a : Nat} (ha : a < s.size) : spotB (lowS s) (a : Int) = true := by
 unfold spotB
 rw [if_pos (low_case hs h (by omega)), if_pos (by omega), low_size]
 exact decide_eq_true (by omega)
structure Taken (l : List Rl) (s : ByteArray) (a m : Nat) (i : Int) (x : Rl) : Prop where
 nat : 0 ≤ i
 lt : i < l.length
 at_ : l[i.toNat]? = some x
 one : 1 ≤ x.f1.size
 most : x.f1.size ≤ m
 fit : a + x.f1.size ≤ s.size
 left : x.f1 = (lowS s).extract a (a + x.f1.size)
 may : mayP s.size (a : Int) x.f0 (x.f1.size : Int) = true
theorem Taken.leftN {l : List Rl} {s : ByteArray} {a m : Nat} {i : Int} {x : Rl} (h : Taken l s a m i x) : leftN l i = x.f1.size := by
 unfold G.leftN rd_T50
 rw [List.getD_eq_getElem?_getD, h.at_]
 rfl
theorem taken_of {l : List Rl} {s : ByteArray} {a m : Nat} {i : Int} {x : Rl} (ha : a < s.size) (hb : bestS l (lowS s) (a : Int) (upTo (lowS s) (a : Int) (m : Int)) = some (x, i)) : Taken l s a m i x := by
 obtain ⟨b1, b2, b3, b4, b5, b6, b7⟩ := best_at l (lowS s) (a : Int) (m : Int) x i (by omega) (by rw [low_size]; omega) hb
 have hu := (upTo_le (lowS s) (a : Int) (m : Int) (by rw [low_size]; omega)).2.2 (by omega)
 rw [low_size] at b4 b6
 refine ⟨b2, ?_, b1, b3, by omega, by omega, ?_, b6⟩
 ·
  have := (List.getElem?_eq_some_iff.1 b1).1; omega
 ·
  rw [show ((a : Int) + (x.f1.size : Int)).toNat = a + x.f1.size from by omega, show ((a : Int)).toNat = a from by omega] at b5
  exact b5
theorem best_run {l : List Rl} (hw : Whole l) {s : ByteArray} (hs : s.size ≤ 1000000) (hL : s.data.toList.all ltC = true) {a m : Nat} (ha : a < s.size) (hm : 1 ≤ m) : ∃ x, Taken l s a m (bestI l (lowS s) (a : Int) (m : Int)) x := by
 have hsp := spot_low hs hL ha
 obtain ⟨x, i, hb⟩ := best_some hw (by rw [low_size]; omega) hsp (by omega : (0 : Int) < (m : Int))
 have hI : bestI l (lowS s) (a : Int) (m : Int) = i := by
  unfold bestI bestO
  rw [if_pos hsp, hb]; rfl
 rw [hI]
 exact ⟨x, taken_of ha hb⟩
theorem all_run {l : List Rl} (hw : Whole l) {s : ByteArray} (hs : s.size ≤ 1000000) (hL : s.data.toList.all ltC = true) {a : Nat} (ha : a < s.size) : ∃ x i, Taken l s a s.size i x ∧ allF l (lowS s) (a : Int) = i :: allF l (lowS s) ((a + x.f1.size : Nat) : Int) := by
 obtain ⟨x, i, hb, he⟩ := all_cons (l := l) hw (run := lowS s) (a := (a : Int)) (by rw [low_size]; omega) (spot_low hs hL ha)
 rw [low_size] at hb
 refine ⟨x, i, taken_of ha hb, ?_⟩
 rw [he]
 congr 2
theorem all_stop {l : List Rl} {s : ByteArray} {a : Nat} (ha : s.size ≤ a) : allF l (lowS s) (a : Int) = [] := by
 refine all_nil ?_
 cases h : spotB (lowS s) (a : Int) with
 | false => rfl
 | true =>
  have := spotB_at h
  rw [low_size] at this
  omega
theorem all_ends {l : List Rl} (hw : Whole l) {s : ByteArray} (hs : s.size ≤ 1000000) (hL : s.data.toList.all ltC = true) : ∀ (n a : Nat), s.size - a ≤ n → a ≤ s.size → allEnd l a (allF l (lowS s) (a : Int)) = s.size ∧ (allF l (lowS s) (a : Int)).length ≤ n ∧ ∀ i ∈ allF l (lowS s) (a : Int), 0 ≤ i ∧ i < l.length
 | n, a, hn, ha => by
  by_cases hlt : a < s.size
  ·
   obtain ⟨x, i, ht, he⟩ := all_run (l := l) hw hs hL hlt
   have h1 := ht.one
   have h2 := ht.fit
   cases n with
   | zero => omega
   | succ n =>
    obtain ⟨i1, i2, i3⟩ := all_ends (l := l) hw hs hL n (a + x.f1.size) (by omega) h2
    rw [he, allEnd, ht.leftN, List.length_cons]
    refine ⟨i1, by omega, fun j hj => ?_⟩
    rcases List.mem_cons.1 hj with rfl | hj
    ·
     exact ⟨ht.nat, ht.lt⟩
    ·
     exact i3 j hj
  ·
   rw [all_stop (by omega)]
   exact ⟨by rw [allEnd]; omega, Nat.zero_le _, fun j hj => by cases hj⟩
theorem run_ok {l : List Rl} (hw : Whole l) {s : ByteArray} (hs : s.size ≤ 100000) (hL : s.data.toList.all ltC = true) : RunOk l s := by
 constructor
 ·
  intro a ha _
  obtain ⟨h1, h2, h3⟩ := all_ends (l := l) hw (by omega) hL (s.size - a) a (Nat.le_refl _) (by omega)
  exact ⟨by omega, by omega, by omega, h3⟩
 ·
  intro a m ha hm _
  obtain ⟨x, ht⟩ := best_run (l := l) hw (by omega) hL ha hm
  rw [ht.leftN]
  exact ⟨ht.one, ht.fit⟩
end Go.Proofs.YtbpbniemjjhecaaGreat.PureC
end
section
namespace Go.Proofs.YtbpbniemjjhecaaGreat.PChk
open Go.RowKit Go.Proofs.YtbpbniemjjhecaaGreat.G Go.Proofs.YtbpbniemjjhecaaGreat.PChk Go.Proofs.YtbpbniemjjhecaaGreatW.PrintWords Go.Proofs.YtbpbniemjjhecaaGreatW.PrintLast Go.Proofs.YtbpbniemjjhecaaGreatW.PrintMore
attribute [local go_sem] max2_int min2_int max_two min_two max_three min_three max_four min_four
set_option linter.unusedVariables false
set_option linter.unusedSimpArgs false
def pCells.f (k : Nat) (l0 : List (S50)) (l1 : List (S48)) (a2 : Tr) : Option (Bool) := if 0 = 0 then ((chunk_Cells.f a2 l1).bind fun t101 => ((r12_Cells.f k l0 l1).bind fun t102 => (if t101.toList = t102.toList then ((chunk_Cells.f Tr.none l1).bind fun t103 => (if t103.toList = ([] : List UInt8) then ((w12_awake.f).bind fun t104 => (some t104)) else (some false))) else (some false)))) else (some false)
end Go.Proofs.YtbpbniemjjhecaaGreat.PChk
end
section
namespace Go.Proofs.YtbpbniemjjhecaaGreat.PureC
open Go.RowKit Go.Proofs.YtbpbniemjjhecaaGreat.PChk Go.Proofs.YtbpbniemjjhecaaGreat.G Go.Proofs.YtbpbniemjjhecaaGreat.GT Go.Proofs.YtbpbniemjjhecaaGreatW.PrintWords Go.Proofs.YtbpbniemjjhecaaGreatW.PrintLast
set_option linter.unusedSimpArgs false
theorem acc_size (a : List UInt8) : (⟨a.toArray⟩ : ByteArray).size = a.length := by simp [ByteArray.size]
theorem rd_short {l : List Rl} (hs : ∀ x ∈ l, x.f2.size ≤ 1000) (i : Int) : (rd_T50 l i).f2.size ≤ 1000 := by
 unfold rd_T50
 cases h : l[i.toNat]? with
 | none => simp [h]; decide
 | some x => simp [h]; exact hs x (List.mem_of_getElem? h)
theorem cells_f (v : Value) (l : List Rl) (hs : ∀ x ∈ l, x.f2.size ≤ 1000) (ps : List Pc) (hp : ps.length ≤ 1000000) : chunk_Cells.f ⟨v, some (some l)⟩ ps = some (cellsGo l ps []) := by
 unfold chunk_Cells.f
 rw [if_pos ⟨hp, fun x hx => by have := hs x hx; omega⟩]
 rfl
end Go.Proofs.YtbpbniemjjhecaaGreat.PureC
end
section
namespace Go.Proofs.YtbpbniemjjhecaaGreat.PureC
open Go.RowKit Go.Proofs.YtbpbniemjjhecaaGreat.PChk Go.Proofs.YtbpbniemjjhecaaGreat.G Go.Proofs.YtbpbniemjjhecaaGreat.GT Go.Proofs.YtbpbniemjjhecaaGreatW.PrintWords Go.Proofs.YtbpbniemjjhecaaGreatW.PrintLast
set_option linter.unusedSimpArgs false
set_option linter.unusedVariables false
def tb (t : Tk) : UInt8 := UInt8.ofNat t.f1.toNat
def keyT (t : Tk) : Int × Int := (t.f0, t.f1)
theorem tb_nat {t : Tk} (h : okTk t) : ((tb t).toNat : Int) = t.f1 := by
 unfold tb
 rw [UInt8.toNat_ofNat']
 have := h.1
 have := h.2
 omega
theorem up_low_256 : ∀ n : Fin 256, (if upC (UInt8.ofNat n.val) = true then lowN (UInt8.ofNat n.val) - 32 else lowN (UInt8.ofNat n.val)) = UInt8.ofNat n.val := by decide +kernel
theorem up_low (b : UInt8) : (if upC b = true then lowN b - 32 else lowN b) = b := by
 have h := up_low_256 ⟨b.toNat, b.toNat_lt⟩
 simp only [ofNat_toNat] at h
 exact h
def okZ (q : Int) (h : Bool) (nm : ByteArray) : Bool :=
 decide (nm = capName) && q != 3 && !h || decide (nm = capsName) && q != 3 && !h || decide (nm = letName) && q == 3 || decide (nm = numName) && q != 3
def nq (q : Int) (nm : ByteArray) : Int := if nm = letName then 1 else if nm = numName then 3 else q
def nh (nm : ByteArray) : Bool := decide (nm = capsName)
def nd (nm : ByteArray) : Bool := decide (nm = capName)
def oneP (q : Int) (x : Rl) (t : Tk) : Prop :=
 (x.f0 = 7 ∧ q = 3 ∧ t.f0 = 1 ∧ x.f1 = oneS t.f1 ∧ lowN (tb t) = tb t) ∨ (x.f0 = 6 ∧ t.f0 = 1 ∧ x.f1 = oneS t.f1 ∧ lowN (tb t) = tb t) ∨ (x.f0 = 8 ∧ t.f0 ≠ 1 ∧ x.f1 = markF t ∧ (markF t).toList ≠ [])
inductive Sp (l : List Rl) (toks : List Tk) : Nat → Int → Bool → Bool → List Pc → Prop
 | done (q : Int) (h : Bool) : Sp l toks toks.length q h false []
 | zero (a : Nat) (q : Int) (h : Bool) (i : Int) (x : Rl) (ps : List Pc) (h0 : 0 ≤ i) (hx : l[i.toNat]? = some x) (h8 : x.f0 = 8) (hq : 1 ≤ q ∧ q ≤ 3) (hz : okZ q h x.f1 = true) (hr : Sp l toks a (nq q x.f1) (nh x.f1) (nd x.f1) ps) : Sp l toks a q h false (⟨i, (a : Int), 0⟩ :: ps)
 | lets (a : Nat) (q : Int) (h d : Bool) (i : Int) (x : Rl) (ps : List Pc) (h0 : 0 ≤ i) (hx : l[i.toNat]? = some x) (hq : inB x.f0 q = true) (h4 : 1 ≤ x.f0 ∧ x.f0 ≤ 4) (h1 : 1 ≤ x.f1.size) (hf : a + x.f1.size ≤ toks.length)
   (hc : ∀ j, j < x.f1.size → ∃ t, toks[a + j]? = some t ∧ t.f0 = 1 ∧ x.f1.data.toList[j]? = some (lowN (tb t)) ∧ upC (tb t) = (h || (d && j == 0))) (hr : Sp l toks (a + x.f1.size) 2 h false ps) : Sp l toks a q h d (⟨i, (a : Int), (x.f1.size : Int)⟩ :: ps)
 | tok (a : Nat) (q : Int) (h : Bool) (i : Int) (x : Rl) (t : Tk) (ps : List Pc) (h0 : 0 ≤ i) (hx : l[i.toNat]? = some x) (hq : 1 ≤ q ∧ q ≤ 3) (ht : toks[a]? = some t) (ho : oneP q x t) (hr : Sp l toks (a + 1) (if x.f0 = 7 then 3 else 1) false false ps) : Sp l toks a q h false (⟨i, (a : Int), 1⟩ :: ps)
def cellsP (l : List Rl) (p : Pc) : List UInt8 := (rd_T50 l p.f0).f2.data.toList
def cellsL (l : List Rl) (ps : List Pc) : List UInt8 := ps.flatMap (cellsP l)
theorem rule_at {l : List Rl} {i : Int} {x : Rl} (h : l[i.toNat]? = some x) : rd_T50 l i = x := by
 unfold rd_T50
 rw [List.getD_eq_getElem?_getD, h]; rfl
theorem in_eight (q : Int) (h : 1 ≤ q ∧ q ≤ 3) : inB 8 q = true ∧ inB 6 q = true := by
 rcases (by omega : q = 1 ∨ q = 2 ∨ q = 3) with rfl | rfl | rfl <;> exact ⟨rfl, rfl⟩
theorem one_in {q : Int} {x : Rl} {t : Tk} (hq : 1 ≤ q ∧ q ≤ 3) (h : oneP q x t) : inB x.f0 q = true := by
 rcases h with ⟨h, rfl, _⟩ | ⟨h, _⟩ | ⟨h, _⟩
 ·
  rw [h]; rfl
 ·
  rw [h]; exact (in_eight q hq).2
 ·
  rw [h]; exact (in_eight q hq).1
theorem sp_first {l : List Rl} {toks : List Tk} {a : Nat} {q : Int} {h d : Bool} {p : Pc} {ps : List Pc} (hs : Sp l toks a q h d (p :: ps)) : ∃ x, 0 ≤ p.f0 ∧ l[p.f0.toNat]? = some x ∧ inB x.f0 q = true := by
 cases hs with
 | zero _ _ _ i x _ h0 hx h8 hq hz hr => exact ⟨x, h0, hx, by rw [h8]; exact (in_eight q hq).1⟩
 | lets _ _ _ _ i x _ h0 hx hq h4 h1 hf hc hr => exact ⟨x, h0, hx, hq⟩
 | tok _ _ _ i x t _ h0 hx hq ht ho hr => exact ⟨x, h0, hx, one_in hq ho⟩
theorem mark_three {t : Tk} : (markF t).size = 0 ∨ (markF t).size = 2 := by
 unfold markF
 split
 ·
  split
  ·
   exact .inr rfl
  ·
   split
   ·
    exact .inr rfl
   ·
    exact .inl rfl
 ·
  exact .inl rfl
theorem names_size {q : Int} {h : Bool} {nm : ByteArray} (hz : okZ q h nm = true) : nm = capName ∨ nm = capsName ∨ nm = letName ∨ nm = numName := by
 unfold okZ at hz
 simp only [Bool.or_eq_true, Bool.and_eq_true, decide_eq_true_eq] at hz
 rcases hz with ((h | h) | h) | h
 ·
  exact .inl h.1.1
 ·
  exact .inr (.inl h.1.1)
 ·
  exact .inr (.inr (.inl h.1))
 ·
  exact .inr (.inr (.inr h.1))
theorem names_three {q : Int} {h : Bool} {nm : ByteArray} (hz : okZ q h nm = true) : nm.size ≠ 0 ∧ nm.size ≠ 2 := by
 rcases names_size hz with rfl | rfl | rfl | rfl <;> decide
theorem mark_inj {s t : Tk} (hs : okTk s) (ht : okTk t) (h1 : (markF s).toList ≠ []) (h : markF s = markF t) : keyT s = keyT t := by
 have e := congrArg (fun b : ByteArray => b.data.toList) h
 have h2 : (markF t).toList ≠ [] := by rw [← h]; exact h1
 rw [toList_data] at h1 h2
 have key : ∀ u : Tk, okTk u → (markF u).data.toList ≠ [] → ∃ z : UInt8, (u.f0 = 2 ∧ z = 43 ∨ u.f0 = 3 ∧ z = 45) ∧ (markF u).data.toList = [tb u, z] := by
  intro u hu hn
  unfold markF at *
  split at hn
  ·
   rename_i h1
   rw [if_pos h1]
   split at hn
   ·
    rename_i h2
    rw [if_pos h2]
    exact ⟨43, .inl ⟨h2, rfl⟩, rfl⟩
   ·
    rename_i h2
    rw [if_neg h2]
    split at hn
    ·
     rename_i h3
     rw [if_pos h3]
     exact ⟨45, .inr ⟨h3, rfl⟩, rfl⟩
    ·
     exact absurd rfl hn
  ·
   exact absurd rfl hn
 obtain ⟨z, hz, ez⟩ := key s hs h1
 obtain ⟨y, hy, ey⟩ := key t ht h2
 rw [ez, ey] at e
 simp only [List.cons.injEq, and_true] at e
 have e1 := tb_nat hs
 rw [e.1, tb_nat ht] at e1
 unfold keyT
 rw [e1]
 rcases hz with ⟨h1, z1⟩ | ⟨h1, z1⟩ <;> rcases hy with ⟨h2, z2⟩ | ⟨h2, z2⟩
 ·
  rw [h1, h2]
 ·
  exfalso; rw [z1, z2] at e; exact absurd e.2 (by decide)
 ·
  exfalso; rw [z1, z2] at e; exact absurd e.2 (by decide)
 ·
  rw [h1, h2]
theorem one_key {q : Int} {x : Rl} {s t : Tk} (hs : okTk s) (ht : okTk t) (h1 : oneP q x s) (h2 : oneP q x t) : keyT s = keyT t := by
 have one : ∀ c d : Int, 0 ≤ c → c < 256 → 0 ≤ d → d < 256 → oneS c = oneS d → c = d := by
  intro c d c0 c1 d0 d1 e
  have e2 := congrArg (fun b : ByteArray => b.data.toList) e
  simp only [oneS, strOfNums, List.map_cons, List.map_nil, List.cons.injEq, and_true] at e2
  have e3 := congrArg UInt8.toNat e2
  rw [UInt8.toNat_ofNat', UInt8.toNat_ofNat'] at e3
  omega
 rcases h1 with ⟨a1, _, b1, c1, _⟩ | ⟨a1, b1, c1, _⟩ | ⟨a1, b1, c1, n1⟩ <;> rcases h2 with ⟨a2, _, b2, c2, _⟩ | ⟨a2, b2, c2, _⟩ | ⟨a2, b2, c2, n2⟩
 all_goals first
  | (exfalso; omega)
  | (unfold keyT; rw [b1, b2, one _ _ hs.1 hs.2 ht.1 ht.2 (c1.symm.trans c2)])
  | exact mark_inj hs ht n1 (c1.symm.trans c2)
theorem sp_unique {l : List Rl} (hA : Apart l) {toks toks' : List Tk} (ho : ∀ t ∈ toks, okTk t) (ho' : ∀ t ∈ toks', okTk t) : ∀ (ps ps' : List Pc) (a a' : Nat) (q : Int) (h d : Bool), Sp l toks a q h d ps → Sp l toks' a' q h d ps' → cellsL l ps = cellsL l ps' → (toks.drop a).map keyT = (toks'.drop a').map keyT
 | [], [], a, a', q, h, d, hs, hs', _ => by
  cases hs
  cases hs'
  rw [List.drop_length, List.drop_length]
  try rfl
 | [], p :: ps, a, a', q, h, d, hs, hs', hc => by
  exfalso
  obtain ⟨x, h0, hx, _⟩ := sp_first hs'
  have hn := cells_pos x (hA.1 x (List.mem_of_getElem? hx))
  unfold cellsL at hc
  rw [List.flatMap_nil, List.flatMap_cons] at hc
  have := (List.append_eq_nil_iff.1 hc.symm).1
  unfold cellsP at this
  rw [rule_at hx] at this
  exact hn this
 | p :: ps, [], a, a', q, h, d, hs, hs', hc => by
  exfalso
  obtain ⟨x, h0, hx, _⟩ := sp_first hs
  have hn := cells_pos x (hA.1 x (List.mem_of_getElem? hx))
  unfold cellsL at hc
  rw [List.flatMap_nil, List.flatMap_cons] at hc
  have := (List.append_eq_nil_iff.1 hc).1
  unfold cellsP at this
  rw [rule_at hx] at this
  exact hn this
 | p :: ps, p' :: ps', a, a', q, h, d, hs, hs', hc => by
  obtain ⟨x, g0, gx, gq⟩ := sp_first hs
  obtain ⟨x', g0', gx', gq'⟩ := sp_first hs'
  unfold cellsL at hc
  rw [List.flatMap_cons, List.flatMap_cons] at hc
  have e1 : cellsP l p = x.f2.data.toList := by unfold cellsP; rw [rule_at gx]
  have e2 : cellsP l p' = x'.f2.data.toList := by unfold cellsP; rw [rule_at gx']
  rw [e1, e2] at hc
  have hi : p.f0.toNat = p'.f0.toNat := beg_one hA q (x.f2.data.toList ++ ps.flatMap (cellsP l)) _ _ x x' gx gx'
   (by unfold begP; rw [gq, List.isPrefixOf_iff_prefix.2 (List.prefix_append _ _)]; rfl)
   (by unfold begP; rw [gq', hc, List.isPrefixOf_iff_prefix.2 (List.prefix_append _ _)]; rfl)
  have hxx : x = x' := by rw [hi] at gx; exact Option.some.inj (gx.symm.trans gx')
  subst hxx
  have hrest : cellsL l ps = cellsL l ps' := List.append_cancel_left hc
  have same : ∀ {y y' : Rl} {i i' : Int}, l[i.toNat]? = some y → l[i'.toNat]? = some y' → i.toNat = i'.toNat → y = y' := fun e e' k => by rw [k] at e; exact Option.some.inj (e.symm.trans e')
  cases hs with
  | zero _ _ _ i y _ h0 hx h8 hq hz hr =>
   cases hs' with
   | zero _ _ _ i' y' _ h0' hx' h8' hq' hz' hr' =>
    obtain rfl := same hx hx' hi
    exact sp_unique hA ho ho' ps ps' a a' _ _ _ hr hr' hrest
   | lets _ _ _ _ i' y' _ h0' hx' hq' h4' h1' hf' hc' hr' =>
    obtain rfl := same hx hx' hi
    omega
   | tok _ _ _ i' y' t' _ h0' hx' hq' ht' ho2' hr' =>
    obtain rfl := same hx hx' hi
    exfalso
    have hn := names_three hz
    rcases ho2' with ⟨k, _⟩ | ⟨k, _⟩ | ⟨_, _, k, _⟩
    ·
     omega
    ·
     omega
    ·
     rw [k] at hn
     rcases mark_three (t := t') with m | m
     ·
      exact hn.1 m
     ·
      exact hn.2 m
  | lets _ _ _ _ i y _ h0 hx hq h4 h1 hf hcc hr =>
   cases hs' with
   | zero _ _ _ i' y' _ h0' hx' h8' hq' hz' hr' =>
    obtain rfl := same hx hx' hi
    omega
   | lets _ _ _ _ i' y' _ h0' hx' hq' h4' h1' hf' hcc' hr' =>
    obtain rfl := same hx hx' hi
    have ih := sp_unique hA ho ho' ps ps' _ _ _ _ _ hr hr' hrest
    have hsplit : ∀ (T : List Tk) (b : Nat), T.drop b = (T.drop b).take y.f1.size ++ T.drop (b + y.f1.size) := fun T b => by rw [← List.drop_drop, List.take_append_drop]
    rw [hsplit toks a, hsplit toks' a', List.map_append, List.map_append, ih]
    congr 1
    apply List.ext_getElem?
    intro j
    rw [List.getElem?_map, List.getElem?_map, List.getElem?_take, List.getElem?_take]
    by_cases hj : j < y.f1.size
    ·
     rw [if_pos hj, if_pos hj, List.getElem?_drop, List.getElem?_drop]
     obtain ⟨t, t1, t2, t3, t4⟩ := hcc j hj
     obtain ⟨t', u1, u2, u3, u4⟩ := hcc' j hj
     rw [t1, u1]
     have b1 : lowN (tb t) = lowN (tb t') := Option.some.inj (t3.symm.trans u3)
     have b2 : tb t = tb t' := by rw [← up_low (tb t), ← up_low (tb t'), b1, t4, u4]
     have k1 := tb_nat (ho t (List.mem_of_getElem? t1))
     rw [b2, tb_nat (ho' t' (List.mem_of_getElem? u1))] at k1
     unfold keyT
     rw [Option.map_some, Option.map_some, t2, u2, k1]
    ·
     rw [if_neg hj, if_neg hj]
   | tok _ _ _ i' y' t' _ h0' hx' hq' ht' ho2' hr' =>
    obtain rfl := same hx hx' hi
    exfalso
    rcases ho2' with ⟨k, _⟩ | ⟨k, _⟩ | ⟨k, _⟩ <;> omega
  | tok _ _ _ i y t _ h0 hx hq ht ho2 hr =>
   cases hs' with
   | zero _ _ _ i' y' _ h0' hx' h8' hq' hz' hr' =>
    obtain rfl := same hx hx' hi
    exfalso
    have hn := names_three hz'
    rcases ho2 with ⟨k, _⟩ | ⟨k, _⟩ | ⟨_, _, k, _⟩
    ·
     omega
    ·
     omega
    ·
     rw [k] at hn
     rcases mark_three (t := t) with m | m
     ·
      exact hn.1 m
     ·
      exact hn.2 m
   | lets _ _ _ _ i' y' _ h0' hx' hq' h4' h1' hf' hcc' hr' =>
    obtain rfl := same hx hx' hi
    exfalso
    rcases ho2 with ⟨k, _⟩ | ⟨k, _⟩ | ⟨k, _⟩ <;> omega
   | tok _ _ _ i' y' t' _ h0' hx' hq' ht' ho2' hr' =>
    obtain rfl := same hx hx' hi
    have ih := sp_unique hA ho ho' ps ps' _ _ _ _ _ hr hr' hrest
    obtain ⟨l1, e1⟩ := List.getElem?_eq_some_iff.1 ht
    obtain ⟨l2, e2⟩ := List.getElem?_eq_some_iff.1 ht'
    rw [List.drop_eq_getElem_cons l1, List.drop_eq_getElem_cons l2, e1, e2, List.map_cons, List.map_cons, ih, one_key (ho t (List.mem_of_getElem? ht)) (ho' t' (List.mem_of_getElem? ht')) ho2 ho2']
end Go.Proofs.YtbpbniemjjhecaaGreat.PureC
end
