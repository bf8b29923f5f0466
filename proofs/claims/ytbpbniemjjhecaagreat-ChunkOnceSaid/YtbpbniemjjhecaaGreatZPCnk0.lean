import Derived.Test.YtbpbniemjjhecaaGreatZGTail
import Derived.Test.YtbpbniemjjhecaaGreatZGPart3
import Derived.Test.YtbpbniemjjhecaaGreatZPChk0
import Derived.Test.YtbpbniemjjhecaaGreatProg
import Derived.Below
import Derived.Deep.Draws
import Derived.Deep.AppendLies
import Derived.Maps.AppendAt
import Derived.OwnWalk
import Derived.Laws.BytesArg
import Derived.Laws.MakeOwn
import Derived.Laws.OwnMore
import Derived.Deep.OwnRows
import Derived.Tactics
import Derived.Lib.ConvBytes
import Derived.Laws.Slices
import Derived.WalkKit
import Derived.KernelRfl
import Derived.RowKit3
import Derived.Deep.LoopGhost
import Derived.Deep.QuietTactic
import Derived.BigQuiet
import Derived.WideLaws
import Derived.Deep.DeepCutAuto
import Derived.Deep.CutBlock
import Derived.Deep.RegionHeld3
import Derived.Laws.Rows
import Derived.Lib.AppendStr
import Derived.ArgAppend
import Derived.Laws.IdiomCopy
import Derived.OrdersHeld
import Derived.Laws.BitsLemmas
import Derived.RowKit
import Derived.Test.YtbpbniemjjhecaaGreatZWSized
section
namespace Go.Proofs.YtbpbniemjjhecaaGreat.G
set_option linter.unusedVariables false
open Go.RowKit Go.Maps Go.Proofs.YtbpbniemjjhecaaGreat.GM Go.Proofs.YtbpbniemjjhecaaGreat.GT Go.Proofs.YtbpbniemjjhecaaGreat.PChk Go.Proofs.YtbpbniemjjhecaaGreat.PureC Go.Proofs.YtbpbniemjjhecaaGreatW.PrintWords Go.Proofs.YtbpbniemjjhecaaGreatW.PrintLast Go.Proofs.YtbpbniemjjhecaaGreatW.PrintMore
def part_Best.f (t : Tr) (s : ByteArray) (a most : Int) : Option (Int × Bool) := match t.x with
 | some (some l) => if s.size ≤ 140737488351232 then some (((bestO l s a most).map (·.2)).getD 0, (bestO l s a most).isSome) else .none
 | _ => .none
theorem part_Best.calls (a0 : Tr) (a1 : ByteArray) (a2 a3 : Int) (r0 : Int) (r1 : Bool) (w : World) (hT0 : Tr.Is w a0) (h : part_Best.f a0 a1 a2 a3 = some (r0, r1)) :
  Calls Tryz.prog 141 #[a0.v, .string a1, .int .i64 a2, .int .i64 a3] w fun e w' => e = .returned (.tuple #[.int .i64 r0, .bool r1]) ∧ Below w.heap.size w w' := by
 unfold part_Best.f at h
 split at h
 ·
  rename_i l hx
  split at h
  ·
   rename_i hb
   obtain ⟨rfl, rfl⟩ := Prod.mk.inj (Option.some.inj h)
   exact bestO_walk a1 a2 a3 a0.v l w (by rw [← hx]; exact hT0) hb
  ·
   cases h
 ·
  cases h
def part_All.f (t : Tr) (s : ByteArray) (a : Int) : Option (List Int) := match t.x with
 | some (some l) => if s.size ≤ 1000000 ∧ l ≠ [] then some (allF l s a) else .none
 | _ => .none
theorem part_All.calls (a0 : Tr) (a1 : ByteArray) (a2 : Int) (r : List Int) (w : World) (hT0 : Tr.Is w a0) (h : part_All.f a0 a1 a2 = some r) :
  Calls Tryz.prog 117 #[a0.v, .string a1, .int .i64 a2] w fun e w' => ∃ v0_ : Value, e = .returned v0_ ∧ Kd.R (Kd.int .i64) 3 w' w.heap.size (fun _ => True) v0_ r ∧ Below w.heap.size w w' := by
 unfold part_All.f at h
 split at h
 ·
  rename_i l hx
  split at h
  ·
   rename_i hb
   obtain rfl := Option.some.inj h
   exact all_walk a1 a2 a0.v l w (by rw [← hx]; exact hT0) hb.1 hb.2
  ·
   cases h
 ·
  cases h
end Go.Proofs.YtbpbniemjjhecaaGreat.G
end
section
namespace Go.Proofs.YtbpbniemjjhecaaGreat.G
set_option linter.unusedVariables false
set_option linter.unusedSimpArgs false
open Go.RowKit Go.Maps Go.Proofs.YtbpbniemjjhecaaGreat.GM Go.Proofs.YtbpbniemjjhecaaGreat.GT Go.Proofs.YtbpbniemjjhecaaGreat.PChk Go.Proofs.YtbpbniemjjhecaaGreat.PureC Go.Proofs.YtbpbniemjjhecaaGreatW.PrintWords Go.Proofs.YtbpbniemjjhecaaGreatW.PrintLast Go.Proofs.YtbpbniemjjhecaaGreatW.PrintMore
abbrev Pc := S48
theorem rules_far {w : World} {A : Option Addr} {l : List Rl} (h : Kd.C k50 w A l.length l) (hl : l ≠ []) {g : Nat} {x y z : Value} {t : TypeId} (hg : w.heap[g]? = some (.cells #[x, y, z] t (0, 0))) : ∀ ad, A = some ad → ad.block ≠ g := by
 intro ad e hne
 obtain ⟨ad', e', g0, g1, g2, g3, g4⟩ := at_T50 h (0 : Int) (by omega) (by have := List.length_pos_iff.2 hl; omega)
 rw [e] at e'
 obtain rfl := Option.some.inj e'
 rw [show (ad.add ((0 : Int).toNat * 5)).block = g from hne] at g3
 rw [kCe hg] at g3
 simp at g3
structure WR (X : Nat → Prop) (w0 w : World) (g : Nat) (t : Tr) (l : List Rl) (out : List Pc) (A : Option Addr) (c : Nat) (vo : Value) : Prop where
 blk : w.heap[g]? = some (.cells #[t.v, .slice A l.length c, vo] 92 (0, 0))
 rules : Kd.C k50 w A l.length l
 cap : l.length ≤ c
 far : ∀ ad, A = some ad → ad.block ≠ g
 out : Kd.R k48 48 w w0.heap.size (fun q => ¬ X q ∧ q ≠ g ∧ ∀ ad, A = some ad → q ≠ ad.block) vo out
 ge : w0.heap.size ≤ g
 tr : Tr.Is w0 t
 below : Below w0.heap.size w0 w
def WRx (X : Nat → Prop) (w0 w : World) (g : Nat) (t : Tr) (l : List Rl) (out : List Pc) : Prop := ∃ A c vo, WR X w0 w g t l out A c vo
theorem WR.on {X : Nat → Prop} {w0 w w1 : World} {g : Nat} {t : Tr} {l : List Rl} {out : List Pc} {A : Option Addr} {c : Nat} {vo : Value} (h : WR X w0 w g t l out A c vo) (hb : Below w.heap.size w w1) : WR X w0 w1 g t l out A c vo :=
 ⟨kBe h.blk hb, Kd.C_below h.rules hb, h.cap, h.far, Kd.R_below h.out hb, h.ge, h.tr, bSp h.below hb⟩
theorem WR.trie {X : Nat → Prop} {w0 w : World} {g : Nat} {t : Tr} {l : List Rl} {out : List Pc} {A : Option Addr} {c : Nat} {vo : Value} (h : WR X w0 w g t l out A c vo) : Tr.Is w t := h.tr.below h.below
theorem WR.free {X : Nat → Prop} {w0 w : World} {g : Nat} {t : Tr} {l : List Rl} {out : List Pc} {A : Option Addr} {c : Nat} {vo : Value} (h : WR X w0 w g t l out A c vo) (hl : l ≠ []) (hX : ∀ q, X q → q < w.heap.size) : ∀ k_, w.heap.size ≤ k_ → ¬ X k_ ∧ k_ ≠ g ∧ ∀ ad, A = some ad → k_ ≠ ad.block :=
 fun k_ hk => ⟨fun hx => by have h_ := hX k_ hx; omega, by have h_ := blk_lt h.blk; omega, fun ad e_ => by have h_ := rules_lt h.rules hl ad e_; omega⟩
theorem WR.put {X : Nat → Prop} {w0 w w1 : World} {g : Nat} {t : Tr} {l : List Rl} {out out' : List Pc} {A : Option Addr} {c : Nat} {vo v1 : Value} (h : WR X w0 w g t l out A c vo) (hl : l ≠ []) (ho : Kd.R k48 48 w1 w0.heap.size (fun q => ¬ X q ∧ q ≠ g ∧ ∀ ad, A = some ad → q ≠ ad.block) v1 out') (hb : Below w0.heap.size w0 w1) (hg : w.grownBy w1 vo.ownBlock) :
  WR X w0 (w1.setCell ⟨g, 2, none⟩ v1) g t l out' A c v1 := by
 have hg1 := (hg.block g (blk_lt h.blk) (fun e_ => (h.out.1 g e_.symm).2.1 rfl)).trans h.blk
 have hc1 := rules_same h.rules (fun ad e_ => hg.block ad.block (rules_lt h.rules hl ad e_) (fun f_ => (h.out.1 ad.block f_.symm).2.2 ad e_ rfl))
 exact ⟨blk_put hg1 2 _ rfl, rules_same hc1 (fun ad e_ => Below.heap_setCell w1 ⟨g, 2, none⟩ _ ad.block (h.far ad e_)), h.cap, h.far, Kd.R_step ho (fun k hk _ => Below.heap_setCell w1 ⟨g, 2, none⟩ _ k hk.2.1), h.ge, h.tr, hb.setCell (p := ⟨g, 2, none⟩) h.ge _⟩
set_option maxHeartbeats 1600000 in
set_option maxRecDepth 100000 in
theorem put_walk (X : Nat → Prop) (w0 w : World) (g : Nat) (t : Tr) (l : List Rl) (out : List Pc) (what : Int) (left : ByteArray) (frm n : Int) (h : WRx X w0 w g t l out) (hX : ∀ q, X q → q < w.heap.size) (hl : l ≠ []) (hn : out.length ≤ 1000000) (hw : -9223372036854775808 ≤ what ∧ what ≤ 9223372036854775807) (hs : left.size ≤ 140737488351232) :
  Calls Tryz.prog 50 #[.pointer (some ⟨g, 0, none⟩), .int .i64 what, .string left, .int .i64 frm, .int .i64 n] w fun e w' => e = .returned (.tuple #[]) ∧ WRx X w0 w' g t l (out ++ [⟨(findO t.x what left).getD 0, frm, n⟩]) := by
 obtain ⟨A, c, vo, hW⟩ := h
 have hu := Tryz.underlying92
 have hp := Tryz.underlying48
 have z0 : w.cell? ⟨g, 0, none⟩ = some t.v := (kCe hW.blk 0).trans rfl
 have z2 : w.cell? ⟨g, 2, none⟩ = some vo := (kCe hW.blk 2).trans rfl
 have HW := Lib.hid hW
 have HL := Lib.hid hl
 have hfd := trie_Trie_Find.calls t what left ((findO t.x what left).getD 0) (findO t.x what left).isSome w hW.trie (by unfold trie_Trie_Find.f; rw [if_pos ⟨hw, hs⟩])
 generalize (findO t.x what left).getD 0 = i at hfd ⊢
 generalize (findO t.x what left).isSome = b at hfd
 have HX := Lib.hid hX
 clear hW hl hw hs hX
 go_enter Tryz.func50, Tryz.ntmps50
 go_wp2_with fail
 go_at_call 40
 refine hfd.mono ?_
 rintro e w1 ⟨rfl, hd⟩
 have HW1 := Lib.hid (HW.out.on hd.below)
 have HX1 := Lib.hid (show ∀ q, X q → q < w1.heap.size from fun q hq => by have h1_ := HX.out q hq; have h2_ := hd.below.size; omega)
 clear hfd z0 z2 HW hd HX
 have z2 : w1.cell? ⟨g, 2, none⟩ = some vo := (kCe HW1.out.blk 2).trans rfl
 have f2 := bFz HW1.out.blk 2
 have HFR := Lib.hid (HW1.out.free HL.out HX1.out)
 go_wp2_with (first | ((with_reducible refine gate_builtin (b := .append) (xs := #[.tmp 26, .tmp 31]) rfl ?_); at_builtin; refine Kd.R_append k48 (w0 := w0) w0.heap.size rfl (.tmp 26) (.tmp 31) 33 48 (.agg #[(.int .i64 0), (.int .i64 0), (.int .i64 0)]) 24 rfl Tryz.underlying33 info48 rfl ?q1 ?q2 vo out (⟨i, frm, n⟩ : Pc) [.int .i64 i, .int .i64 frm, .int .i64 n] (fun q => ¬ X q ∧ q ≠ g ∧ ∀ ad, A = some ad → q ≠ ad.block) (fun _ => False) rfl ?q3 ?aP (fun _ hk => hk.elim) ?aF ?aO ?aB ?aS ?aL ?_; (case q1 => decide); (case q2 => omega); (case q3 => first | rfl | (go_simp; done) | (go_simp; rfl)); (case aP => exact k48_mkM _ _ _ (⟨i, frm, n⟩ : Pc)); (case aB => exact (by repeat (first | (with_reducible first | exact HW1.out.below | apply bAl | apply pbD | apply bD1) | exact HW1.out.below))); (case aF => exact (fun k_ hk => HFR.out k_ (by first | exact hk | exact Nat.le_trans (Nat.le_succ _) (by simpa only [World.size_alloc] using hk) | (simp only [World.size_alloc] at hk; omega)))); (case aO => exact (by (with_reducible repeat (first | apply Kd.R_alloc | apply Kd.R_drewN | apply Kd.R_drew)); exact HW1.out.out)); (case aS => exact (bSz (by repeat (first | (with_reducible first | exact HW1.out.below | apply bAl | apply pbD | apply bD1) | exact HW1.out.below)))); (case aL => omega); intro v6 w6 ho hb hg hat; obtain ⟨A6, c6, e6⟩ := Kd.R_slice ho; subst e6; rw [show (out ++ [(⟨i, frm, n⟩ : Pc)]).length = out.length + 1 from by simp] at ho; have f6 : w6.frozen? ⟨g, 2, none⟩ = false := bFz ((hg.block g (blk_lt HW1.out.blk) (fun e_ => (HW1.out.out.1 g e_.symm).2.1 rfl)).trans HW1.out.blk) 2; have k6 : w6.cell? ⟨g, 2, none⟩ = some vo := (kCe ((hg.block g (blk_lt HW1.out.blk) (fun e_ => (HW1.out.out.1 g e_.symm).2.1 rfl)).trans HW1.out.blk) 2).trans rfl; have HY := Lib.hid (And.intro ho (And.intro hb hg)); clear ho hb hg hat z2 f2))
 refine bodyPost_end (v := .tuple #[]) (by simp [results, Tryz.results50, go_sem]) rfl ?_
 exact ⟨rfl, A, c, _, HW1.out.put HL.out HY.out.1 HY.out.2.1 HY.out.2.2⟩
set_option maxHeartbeats 1600000 in
set_option maxRecDepth 100000 in
theorem put_walkX (X : Nat → Prop) (w0 w : World) (g : Nat) (t : Tr) (l : List Rl) (out : List Pc) (what : Int) (left : ByteArray) (frm n : Int) (h : WRx X w0 w g t l out) (hX : ∀ q, X q → q < w.heap.size) (hXg : ∀ q, X q → q ≠ g) (hl : l ≠ []) (hn : out.length ≤ 1000000) (hw : -9223372036854775808 ≤ what ∧ what ≤ 9223372036854775807) (hs : left.size ≤ 140737488351232) :
  Calls Tryz.prog 50 #[.pointer (some ⟨g, 0, none⟩), .int .i64 what, .string left, .int .i64 frm, .int .i64 n] w fun e w' => e = .returned (.tuple #[]) ∧ WRx X w0 w' g t l (out ++ [⟨(findO t.x what left).getD 0, frm, n⟩]) ∧ ∀ q, X q → w'.heap[q]? = w.heap[q]? := by
 obtain ⟨A, c, vo, hW⟩ := h
 have hu := Tryz.underlying92
 have hp := Tryz.underlying48
 have z0 : w.cell? ⟨g, 0, none⟩ = some t.v := (kCe hW.blk 0).trans rfl
 have z2 : w.cell? ⟨g, 2, none⟩ = some vo := (kCe hW.blk 2).trans rfl
 have HW := Lib.hid hW
 have HL := Lib.hid hl
 have hfd := trie_Trie_Find.calls t what left ((findO t.x what left).getD 0) (findO t.x what left).isSome w hW.trie (by unfold trie_Trie_Find.f; rw [if_pos ⟨hw, hs⟩])
 generalize (findO t.x what left).getD 0 = i at hfd ⊢
 generalize (findO t.x what left).isSome = b at hfd
 have HX := Lib.hid hX
 have HXG := Lib.hid hXg
 clear hW hl hw hs hX hXg
 go_enter Tryz.func50, Tryz.ntmps50
 go_wp2_with fail
 go_at_call 40
 refine hfd.mono ?_
 rintro e w1 ⟨rfl, hd⟩
 have HW1 := Lib.hid (HW.out.on hd.below)
 have HX1 := Lib.hid (show ∀ q, X q → q < w1.heap.size from fun q hq => by have h1_ := HX.out q hq; have h2_ := hd.below.size; omega)
 have HD := Lib.hid (show ∀ q, X q → w1.heap[q]? = w.heap[q]? from fun q hq => hd.below.block q (HX.out q hq))
 clear hfd z0 z2 HW hd HX
 have z2 : w1.cell? ⟨g, 2, none⟩ = some vo := (kCe HW1.out.blk 2).trans rfl
 have f2 := bFz HW1.out.blk 2
 have HFR := Lib.hid (HW1.out.free HL.out HX1.out)
 go_wp2_with (first | ((with_reducible refine gate_builtin (b := .append) (xs := #[.tmp 26, .tmp 31]) rfl ?_); at_builtin; refine Kd.R_append k48 (w0 := w0) w0.heap.size rfl (.tmp 26) (.tmp 31) 33 48 (.agg #[(.int .i64 0), (.int .i64 0), (.int .i64 0)]) 24 rfl Tryz.underlying33 info48 rfl ?q1 ?q2 vo out (⟨i, frm, n⟩ : Pc) [.int .i64 i, .int .i64 frm, .int .i64 n] (fun q => ¬ X q ∧ q ≠ g ∧ ∀ ad, A = some ad → q ≠ ad.block) (fun _ => False) rfl ?q3 ?aP (fun _ hk => hk.elim) ?aF ?aO ?aB ?aS ?aL ?_; (case q1 => decide); (case q2 => omega); (case q3 => first | rfl | (go_simp; done) | (go_simp; rfl)); (case aP => exact k48_mkM _ _ _ (⟨i, frm, n⟩ : Pc)); (case aB => exact (by repeat (first | (with_reducible first | exact HW1.out.below | apply bAl | apply pbD | apply bD1) | exact HW1.out.below))); (case aF => exact (fun k_ hk => HFR.out k_ (by first | exact hk | exact Nat.le_trans (Nat.le_succ _) (by simpa only [World.size_alloc] using hk) | (simp only [World.size_alloc] at hk; omega)))); (case aO => exact (by (with_reducible repeat (first | apply Kd.R_alloc | apply Kd.R_drewN | apply Kd.R_drew)); exact HW1.out.out)); (case aS => exact (bSz (by repeat (first | (with_reducible first | exact HW1.out.below | apply bAl | apply pbD | apply bD1) | exact HW1.out.below)))); (case aL => omega); intro v6 w6 ho hb hg hat; obtain ⟨A6, c6, e6⟩ := Kd.R_slice ho; subst e6; rw [show (out ++ [(⟨i, frm, n⟩ : Pc)]).length = out.length + 1 from by simp] at ho; have f6 : w6.frozen? ⟨g, 2, none⟩ = false := bFz ((hg.block g (blk_lt HW1.out.blk) (fun e_ => (HW1.out.out.1 g e_.symm).2.1 rfl)).trans HW1.out.blk) 2; have k6 : w6.cell? ⟨g, 2, none⟩ = some vo := (kCe ((hg.block g (blk_lt HW1.out.blk) (fun e_ => (HW1.out.out.1 g e_.symm).2.1 rfl)).trans HW1.out.blk) 2).trans rfl; have HY := Lib.hid (And.intro ho (And.intro hb hg)); clear ho hb hg hat z2 f2))
 refine bodyPost_end (v := .tuple #[]) (by simp [results, Tryz.results50, go_sem]) rfl ?_
 refine ⟨rfl, ⟨A, c, _, HW1.out.put HL.out HY.out.1 HY.out.2.1 HY.out.2.2⟩, fun q hq => ?_⟩
 exact (Below.heap_setCell _ ⟨g, 2, none⟩ _ q (HXG.out q hq)).trans ((HY.out.2.2.block q (HX1.out q hq) (fun f_ => (HW1.out.out.1 q f_.symm).1 hq)).trans (HD.out q hq))
theorem WR.more {X Y : Nat → Prop} {w0 w : World} {g : Nat} {t : Tr} {l : List Rl} {out : List Pc} {A : Option Addr} {c : Nat} {vo : Value} (h : WR X w0 w g t l out A c vo) (hY : ∀ q, q < w.heap.size → ¬ Y q) : WR (fun q => X q ∨ Y q) w0 w g t l out A c vo :=
 ⟨h.blk, h.rules, h.cap, h.far, Kd.R_mono (Kd.R_bound h.out) (fun k hk => ⟨fun e => e.elim hk.1.1 (hY k hk.2.2.1), hk.1.2⟩), h.ge, h.tr, h.below⟩
theorem WR.less {X Y : Nat → Prop} {w0 w : World} {g : Nat} {t : Tr} {l : List Rl} {out : List Pc} {A : Option Addr} {c : Nat} {vo : Value} (h : WR X w0 w g t l out A c vo) (hY : ∀ q, Y q → X q) : WR Y w0 w g t l out A c vo :=
 ⟨h.blk, h.rules, h.cap, h.far, Kd.R_mono h.out (fun k hk => ⟨fun e => hk.1 (hY k e), hk.2⟩), h.ge, h.tr, h.below⟩
end Go.Proofs.YtbpbniemjjhecaaGreat.G
end
section
namespace Go.Proofs.YtbpbniemjjhecaaGreat.PChk
open Go.RowKit Go.Proofs.YtbpbniemjjhecaaGreat.G Go.Proofs.YtbpbniemjjhecaaGreat.PChk Go.Proofs.YtbpbniemjjhecaaGreatW.PrintWords Go.Proofs.YtbpbniemjjhecaaGreatW.PrintLast Go.Proofs.YtbpbniemjjhecaaGreatW.PrintMore
attribute [local go_sem] max2_int min2_int max_two min_two max_three min_three max_four min_four
set_option linter.unusedVariables false
set_option linter.unusedSimpArgs false
end Go.Proofs.YtbpbniemjjhecaaGreat.PChk
end
