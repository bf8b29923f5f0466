import Derived.Test.YtbpbniemjjhecaaGreatZGTail
import Derived.Test.YtbpbniemjjhecaaGreatZPPar1
import Derived.Test.YtbpbniemjjhecaaGreatZPPar0
section
namespace Go.Proofs.YtbpbniemjjhecaaGreat.G
set_option linter.unusedVariables false
set_option linter.unusedSimpArgs false
open Go.RowKit Go.Maps Go.Proofs.YtbpbniemjjhecaaGreat.GM Go.Proofs.YtbpbniemjjhecaaGreat.GT Go.Proofs.YtbpbniemjjhecaaGreat.PChk Go.Proofs.YtbpbniemjjhecaaGreat.PureC Go.Proofs.YtbpbniemjjhecaaGreatW.PrintWords Go.Proofs.YtbpbniemjjhecaaGreatW.PrintLast Go.Proofs.YtbpbniemjjhecaaGreatW.PrintMore
set_option maxHeartbeats 1600000 in
theorem store_run {W : World} {g : Nat} (eval : Operand → Value) (o : Oper) (p : Tmp) (v : Operand) (ho : o.op = .store 175 (.tmp p) v) (hp : eval (.tmp p) = .pointer (some ⟨g, 0, none⟩)) (v0 v3 v4 v5 u0 u3 u4 u5 : Int) (v1 v2 u1 u2 : ByteArray)
  (hv : eval v = .agg #[.int .i64 v0, .string v1, .string v2, .int .i64 v3, .int .i64 v4, .int .i64 v5]) (h : W.heap[g]? = some (.cells #[.int .i64 u0, .string u1, .string u2, .int .i64 u3, .int .i64 u4, .int .i64 u5] 175 (0, 0))) :
  (execOp eval o).run Tryz.prog W = .ok .skip ((((((W.setCell ⟨g, 0, none⟩ (.int .i64 v0)).setCell ⟨g, 1, none⟩ (.string v1)).setCell ⟨g, 2, none⟩ (.string v2)).setCell ⟨g, 3, none⟩ (.int .i64 v3)).setCell ⟨g, 4, none⟩ (.int .i64 v4)).setCell ⟨g, 5, none⟩ (.int .i64 v5)) := by
 have hu104 := Tryz.underlying175
 have c0 : W.cell? ⟨g, 0, none⟩ = some (.int .i64 u0) := (kCe h 0).trans rfl
 have c1 : W.cell? ⟨g, 1, none⟩ = some (.string u1) := (kCe h 1).trans rfl
 have c2 : W.cell? ⟨g, 2, none⟩ = some (.string u2) := (kCe h 2).trans rfl
 have c3 : W.cell? ⟨g, 3, none⟩ = some (.int .i64 u3) := (kCe h 3).trans rfl
 have c4 : W.cell? ⟨g, 4, none⟩ = some (.int .i64 u4) := (kCe h 4).trans rfl
 have c5 : W.cell? ⟨g, 5, none⟩ = some (.int .i64 u5) := (kCe h 5).trans rfl
 have f0 := bFz h 0
 have f1 := bFz h 1
 have f2 := bFz h 2
 have f3 := bFz h 3
 have f4 := bFz h 4
 have f5 := bFz h 5
 obtain ⟨d, op, ty, pos, af, gd⟩ := o
 cases ho
 first | (go_simp; done) | (go_simp; rfl)
end Go.Proofs.YtbpbniemjjhecaaGreat.G
end
section
namespace Go.Proofs.YtbpbniemjjhecaaGreat.G
set_option linter.unusedVariables false
set_option linter.unusedSimpArgs false
open Go.RowKit Go.Maps Go.Proofs.YtbpbniemjjhecaaGreat.GM Go.Proofs.YtbpbniemjjhecaaGreat.GT Go.Proofs.YtbpbniemjjhecaaGreat.PChk Go.Proofs.YtbpbniemjjhecaaGreat.PureC Go.Proofs.YtbpbniemjjhecaaGreatW.PrintWords Go.Proofs.YtbpbniemjjhecaaGreatW.PrintLast Go.Proofs.YtbpbniemjjhecaaGreatW.PrintMore
def ansB (o : Option (Rl × Int)) : Value := .tuple #[.int .i64 ((o.map (·.2)).getD 0), .bool o.isSome]
def chC : Option (Rl × Int) → Array Value
 | none => #[.int .i64 0, .string (⟨#[]⟩ : ByteArray), .string (⟨#[]⟩ : ByteArray), .int .i64 0, .int .i64 0, .int .i64 0]
 | some (x, i) => #[.int .i64 x.f0, .string x.f1, .string x.f2, .int .i64 x.f3, .int .i64 x.f4, .int .i64 i]
def upTo (run : ByteArray) (a most : Int) : Nat := (min (mn most ((run.size : Int) - a)) 12).toNat
def stepW (l : List Rl) (run : ByteArray) (a : Int) (j k : Nat) : Option (Rl × Int) := ((List.range k).map fun (i : Nat) => ((j : Int) + 1, (i : Int) + 1)).foldl (stepO l run a) (bestS l run a j)
theorem stepW_zero (l : List Rl) (run : ByteArray) (a : Int) (j : Nat) : stepW l run a j 0 = bestS l run a j := rfl
theorem stepW_succ (l : List Rl) (run : ByteArray) (a : Int) (j k : Nat) : stepW l run a j (k + 1) = stepO l run a (stepW l run a j k) ((j : Int) + 1, (k : Int) + 1) := by
 unfold stepW
 rw [List.range_succ, List.map_append, List.foldl_append]
 rfl
theorem stepW_four (l : List Rl) (run : ByteArray) (a : Int) (j : Nat) : stepW l run a j 4 = bestS l run a (j + 1) := by
 unfold stepW
 show _ = (pairsN (j + 1)).foldl (stepO l run a) none
 rw [pairsN_snoc, List.foldl_append]
 rfl
structure PB (w0 w : World) (g g8 : Nat) (run : ByteArray) (a most : Int) (st : Option (Rl × Int)) : Prop where
 spot : w.heap[g]? = some (.cells #[.string run, .int .i64 a, .int .i64 most] 165 (0, 0))
 out : w.heap[g8]? = some (.cells (chC st) 175 (0, 0))
 ne : g ≠ g8
 ge : w0.heap.size ≤ g8
 below : Below w0.heap.size w0 w
theorem PB.on {w0 w w' : World} {g g8 : Nat} {run : ByteArray} {a most : Int} {st : Option (Rl × Int)} (h : PB w0 w g g8 run a most st) (hb : Below w.heap.size w w') : PB w0 w' g g8 run a most st :=
 ⟨kBe h.spot hb, kBe h.out hb, h.ne, h.ge, bSp h.below hb⟩
theorem step_none (l : List Rl) (run : ByteArray) (a : Int) (st : Option (Rl × Int)) (p : Int × Int) (h : leftF l (p.2, run.extract a.toNat (a + p.1).toNat) = none) : stepO l run a st p = st := by
 have e : candO l run a p = none := by unfold candO; rw [h, ite_self]
 unfold stepO; rw [e]
theorem step_not (l : List Rl) (run : ByteArray) (a : Int) (st : Option (Rl × Int)) (p : Int × Int) (h : mayP run.size a p.2 p.1 = false) : stepO l run a st p = st := by
 have e : candO l run a p = none := by unfold candO; rw [h]; rfl
 unfold stepO; rw [e]
theorem step_take (l : List Rl) (run : ByteArray) (a : Int) (st : Option (Rl × Int)) (p : Int × Int) (i : Int) (h : leftF l (p.2, run.extract a.toNat (a + p.1).toNat) = some i) (hm : mayP run.size a p.2 p.1 = true) : stepO l run a st p = takeO l st i := by
 have e : candO l run a p = some i := by unfold candO; rw [if_pos hm]; exact h
 unfold stepO; rw [e]
theorem may_is (run : ByteArray) (a most what n : Int) (hw : wrap64 (a + n) = a + n) : part_spot_may.f run a most what n = some (mayP run.size a what n) := by
 unfold part_spot_may.f mayP
 rw [hw]
 split
 ·
  rfl
 ·
  split
  ·
   rfl
  ·
   split
   ·
    rfl
   ·
    split
    ·
     split
     ·
      rename_i h; rw [decide_eq_true h]; rfl
     ·
      rename_i h; rw [decide_eq_false h]; rfl
    ·
     rfl
theorem over_is (x y : Rl) (i q : Int) : part_choice_over.f x.f0 x.f1 x.f2 x.f3 x.f4 i y.f0 y.f1 y.f2 y.f3 y.f4 q = some (overP x i y q) := by
 unfold part_choice_over.f overP
 by_cases h1 : x.f3 = y.f3
 ·
  rw [if_pos h1, if_neg (show ¬ (x.f3 ≠ y.f3) from fun hn => hn h1)]
  by_cases h2 : x.f1.size = y.f1.size
  ·
   rw [if_pos (by rw [h2]), if_neg (show ¬ (x.f1.size ≠ y.f1.size) from fun hn => hn h2)]
  ·
   rw [if_neg (show ¬ ((x.f1.size : Int) = y.f1.size) from by omega), if_pos h2]
   congr 1
   by_cases h3 : x.f1.size > y.f1.size
   ·
    rw [decide_eq_true h3, decide_eq_true (by omega)]
   ·
    rw [decide_eq_false h3, decide_eq_false (by omega)]
 ·
  rw [if_neg h1, if_pos h1]
theorem put_choice {W : World} {g : Nat} (st : Option (Rl × Int)) (h : W.heap[g]? = some (.cells (chC st) 175 (0, 0))) (x : Rl) (i : Int) :
  (((((((W.setCell ⟨g, 0, none⟩ (.int .i64 x.f0)).setCell ⟨g, 1, none⟩ (.string x.f1)).setCell ⟨g, 2, none⟩ (.string x.f2)).setCell ⟨g, 3, none⟩ (.int .i64 x.f3)).setCell ⟨g, 4, none⟩ (.int .i64 x.f4)).setCell ⟨g, 5, none⟩ (.int .i64 i)).heap[g]? = some (.cells (chC (some (x, i))) 175 (0, 0))) := by
 obtain ⟨u0, u1, u2, u3, u4, u5, e⟩ : ∃ u0 u1 u2 u3 u4 u5, chC st = #[u0, u1, u2, u3, u4, u5] := by
  cases st with
  | none => exact ⟨_, _, _, _, _, _, rfl⟩
  | some d => obtain ⟨y, q⟩ := d; exact ⟨_, _, _, _, _, _, rfl⟩
 rw [e] at h
 exact blk_put (blk_put (blk_put (blk_put (blk_put (blk_put h 0 _ rfl) 1 _ rfl) 2 _ rfl) 3 _ rfl) 4 _ rfl) 5 _ rfl
theorem put_below {W : World} {g b : Nat} {w : World} (hg : b ≤ g) (h : Below b w W) (v0 v1 v2 v3 v4 v5 : Value) :
  Below b w ((((((W.setCell ⟨g, 0, none⟩ v0).setCell ⟨g, 1, none⟩ v1).setCell ⟨g, 2, none⟩ v2).setCell ⟨g, 3, none⟩ v3).setCell ⟨g, 4, none⟩ v4).setCell ⟨g, 5, none⟩ v5) :=
 (((((h.setCell (p := ⟨g, 0, none⟩) hg _).setCell (p := ⟨g, 1, none⟩) hg _).setCell (p := ⟨g, 2, none⟩) hg _).setCell (p := ⟨g, 3, none⟩) hg _).setCell (p := ⟨g, 4, none⟩) hg _).setCell (p := ⟨g, 5, none⟩) hg _
theorem put_far {W : World} {g k : Nat} {o : Obj} (hk : k ≠ g) (h : W.heap[k]? = some o) (v0 v1 v2 v3 v4 v5 : Value) :
  ((((((W.setCell ⟨g, 0, none⟩ v0).setCell ⟨g, 1, none⟩ v1).setCell ⟨g, 2, none⟩ v2).setCell ⟨g, 3, none⟩ v3).setCell ⟨g, 4, none⟩ v4).setCell ⟨g, 5, none⟩ v5).heap[k]? = some o := by
 have far : ∀ (W : World) (i : Nat) (v : Value), (W.setCell ⟨g, i, none⟩ v).heap[k]? = W.heap[k]? := fun W i v => Below.heap_setCell W _ v k hk
 rw [far, far, far, far, far, far]
 exact h
theorem PB.put_far {w0 W : World} {g g8 gn : Nat} {run : ByteArray} {a most : Int} {st : Option (Rl × Int)} (h : PB w0 W g g8 run a most st) (h1 : g ≠ gn) (h2 : g8 ≠ gn) (h3 : w0.heap.size ≤ gn) (v0 v1 v2 v3 v4 v5 : Value) :
  PB w0 ((((((W.setCell ⟨gn, 0, none⟩ v0).setCell ⟨gn, 1, none⟩ v1).setCell ⟨gn, 2, none⟩ v2).setCell ⟨gn, 3, none⟩ v3).setCell ⟨gn, 4, none⟩ v4).setCell ⟨gn, 5, none⟩ v5) g g8 run a most st :=
 ⟨G.put_far h1 h.spot _ _ _ _ _ _, G.put_far h2 h.out _ _ _ _ _ _, h.ne, h.ge, put_below h3 h.below _ _ _ _ _ _⟩
theorem PB.take {w0 W : World} {g g8 : Nat} {run : ByteArray} {a most : Int} {st : Option (Rl × Int)} (h : PB w0 W g g8 run a most st) (x : Rl) (i : Int) :
  PB w0 ((((((W.setCell ⟨g8, 0, none⟩ (.int .i64 x.f0)).setCell ⟨g8, 1, none⟩ (.string x.f1)).setCell ⟨g8, 2, none⟩ (.string x.f2)).setCell ⟨g8, 3, none⟩ (.int .i64 x.f3)).setCell ⟨g8, 4, none⟩ (.int .i64 x.f4)).setCell ⟨g8, 5, none⟩ (.int .i64 i)) g g8 run a most (some (x, i)) :=
 ⟨G.put_far h.ne h.spot _ _ _ _ _ _, put_choice st h.out x i, h.ne, h.ge, put_below h.ge h.below _ _ _ _ _ _⟩
theorem takeO_none (l : List Rl) (p : Nat) (x : Rl) (hx : l[p]? = some x) : takeO l none (p : Int) = some (x, (p : Int)) := by
 unfold takeO; rw [Int.toNat_natCast, hx]
theorem takeO_some (l : List Rl) (p : Nat) (x y : Rl) (q : Int) (hx : l[p]? = some x) : takeO l (some (y, q)) (p : Int) = if overP x (p : Int) y q = true then some (x, (p : Int)) else some (y, q) := by
 unfold takeO; rw [Int.toNat_natCast, hx]
theorem mn_le (a b c : Int) (h : c ≤ mn a b) : c ≤ a ∧ c ≤ b := by unfold mn at h; split at h <;> omega
set_option maxHeartbeats 1600000 in
set_option maxRecDepth 100000 in
theorem part_best.calls (run : ByteArray) (a most : Int) (v : Value) (l : List Rl) (A : Option Addr) (c : Nat) (w : World) (hT : TV w v (some (some l))) (hR : Kd.C k50 w A l.length l) (hc : l.length ≤ c) (h0 : 0 ≤ a) (h1 : a < run.size) (hs : run.size ≤ 140737488351232) :
  Calls Tryz.prog 140 #[.agg #[.string run, .int .i64 a, .int .i64 most], v, .slice A l.length c] w fun e w' => e = .returned (ansB (bestS l run a (upTo run a most))) ∧ Below w.heap.size w w' := by
 have hu84 := Tryz.underlying165
 have hu104 := Tryz.underlying175
 have hL : part_spot_left.f run a most = some (mn most ((run.size : Int) - a)) := by unfold part_spot_left.f; rw [show wrap64 ((run.size : Int) - a) = (run.size : Int) - a from by unfold wrap64; omega]
 have HT0 := Lib.hid hT
 have HR0 := Lib.hid hR
 clear hT hR
 go_enter Tryz.func140, Tryz.ntmps140
 go_wp2_with (first | ((with_reducible refine gate_dst (N := 3) rfl ?_); (try (refine gate_guard (by rfl) ?_; dsimp only)); refine box_event ?hg (N := 3) ?hd (cs := #[.string run, .int .i64 a, .int .i64 most]) (t := 165) ?hr ?_; (case hd => rfl); (case hg => rfl); (case hr => first | (go_simp; done) | (go_simp; rfl)); intro g hg w1 hbox hb; have HG := Lib.hid (And.intro hg (And.intro hbox hb)); clear hg hbox hb) | ((with_reducible refine gate_dst (N := 8) rfl ?_); (try (refine gate_guard (by rfl) ?_; dsimp only)); refine box_event ?hg (N := 8) ?hd (cs := chC none) (t := 175) ?hr ?_; (case hd => rfl); (case hg => rfl); (case hr => first | (go_simp; done) | (go_simp; rfl)); intro g8 hg w2 hbox hb; have HG8 := Lib.hid (And.intro hg (And.intro hbox hb)); clear hg hbox hb))
 have HP0 : Hid (PB w w2 g g8 run a most none) := Lib.hid (by
  obtain ⟨e1, x1, b1⟩ := HG.out
  obtain ⟨e2, x2, b2⟩ := HG8.out
  have hlt := blk_lt x1
  exact ⟨kBe x1 b2, x2, by omega, by have := b1.size; omega, bSp b1 b2⟩)
 clear HG HG8
 go_wp2
 go_loopw [9, 7] (fun i o wr => ∃ j : Nat, i = .int .i64 ((j : Int) + 1) ∧ j ≤ upTo run a most ∧ o = .bool (bestS l run a j).isSome ∧ Hid (PB w wr g g8 run a most (bestS l run a j))) (fun i _ _ => upTo run a most + 1 - (intOf i).toNat)
 case atStart => exact ⟨0, rfl, Nat.zero_le _, rfl, HP0⟩
 case round =>
  clear HP0
  obtain ⟨j, rfl, hj, rfl, HP⟩ := hrel
  have z0 : wr.cell? ⟨g, 0, none⟩ = some (.string run) := (kCe HP.out.spot 0).trans rfl
  have z1 : wr.cell? ⟨g, 1, none⟩ = some (.int .i64 a) := (kCe HP.out.spot 1).trans rfl
  have z2 : wr.cell? ⟨g, 2, none⟩ = some (.int .i64 most) := (kCe HP.out.spot 2).trans rfl
  have hLc := fun W : World => part_spot_left.calls run a most _ W hL
  by_cases hlt : (j : Int) + 1 ≤ min (mn most ((run.size : Int) - a)) 12
  ·
   go_wp2_with fail
   go_at_call 149
   refine (hLc _).mono ?_
   rintro e w3 ⟨rfl, b3⟩
   have HP3 := Lib.hid (HP.out.on b3)
   clear b3 hLc z0 z1 z2
   go_wp2
   go_loopw [10, 7] (fun i o wr => ∃ k : Nat, i = .int .i64 ((k : Int) + 1) ∧ k ≤ 4 ∧ o = .bool (stepW l run a j k).isSome ∧ Hid (PB w wr g g8 run a most (stepW l run a j k))) (fun i _ _ => 5 - (intOf i).toNat)
   case atStart => exact ⟨0, rfl, by omega, rfl, HP3⟩
   case round =>
    clear HP3 HP
    obtain ⟨k, rfl, hk, rfl, HP⟩ := hrel
    by_cases hk4 : (k : Int) + 1 ≤ 4
    ·
     have z0 : wr.cell? ⟨g, 0, none⟩ = some (.string run) := (kCe HP.out.spot 0).trans rfl
     have z1 : wr.cell? ⟨g, 1, none⟩ = some (.int .i64 a) := (kCe HP.out.spot 1).trans rfl
     have z2 : wr.cell? ⟨g, 2, none⟩ = some (.int .i64 most) := (kCe HP.out.spot 2).trans rfl
     have hjm := (Int.le_min.1 hlt).1
     have hjs := mn_le _ _ _ hjm
     have hj12 := (Int.le_min.1 hlt).2
     have hw : wrap64 (a + ((j : Int) + 1)) = a + ((j : Int) + 1) := by unfold wrap64; omega
     have hc1 : a ≤ a + ((j : Int) + 1) := by omega
     have hc2 : a + ((j : Int) + 1) ≤ (run.size : Int) := by omega
     have hsz : (run.extract a.toNat (a + ((j : Int) + 1)).toNat).size ≤ 140737488351232 := by rw [ByteArray.size_extract]; omega
     have hfd := fun W hTW => trie_Find.calls v (some (some l)) ((k : Int) + 1) (run.extract a.toNat (a + ((j : Int) + 1)).toNat) ⟨WalkArith.wf_i64 (by omega), by show (run.extract a.toNat (a + ((j : Int) + 1)).toNat).size ≤ maxLen; unfold maxLen; omega⟩ W hTW
     have hfo : findO (some (some l)) ((k : Int) + 1) (run.extract a.toNat (a + ((j : Int) + 1)).toNat) = leftF l ((k : Int) + 1, run.extract a.toNat (a + ((j : Int) + 1)).toNat) := rfl
     rw [hfo] at hfd
     obtain ⟨o, ho⟩ : ∃ o, leftF l ((k : Int) + 1, run.extract a.toNat (a + ((j : Int) + 1)).toNat) = o := ⟨_, rfl⟩
     rw [ho] at hfd
     cases o with
     | none =>
      simp only [ans, Option.getD_none, Option.isSome_none] at hfd
      have hst : stepW l run a j (k + 1) = stepW l run a j k := by rw [stepW_succ, step_none l run a _ _ ho]
      go_wp2_with fail
      go_at_call 40
      refine (hfd _ (HT0.out.below HP.out.below)).mono ?_
      rintro e w4 ⟨rfl, rfl⟩
      clear hfd z0 z1 z2 hfo
      go_wp2
      go_roundw
      case rel => exact ⟨k + 1, by go_num, by omega, by rw [hst], Lib.hid (by rw [hst]; exact HP.out)⟩
      case measure => simp [intOf]; omega
     | some i =>
      simp only [ans, Option.getD_some, Option.isSome_some] at hfd
      obtain ⟨p, x, hx, hpx, rfl⟩ := lastI_some _ l i ho
      have hmay := may_is run a most ((k : Int) + 1) ((j : Int) + 1) hw
      obtain ⟨b, hb⟩ : ∃ b, mayP run.size a ((k : Int) + 1) ((j : Int) + 1) = b := ⟨_, rfl⟩
      rw [hb] at hmay
      cases b with
      | false =>
       have hst : stepW l run a j (k + 1) = stepW l run a j k := by rw [stepW_succ, step_not l run a _ _ hb]
       go_wp2_with fail
       go_at_call 40
       refine (hfd _ (HT0.out.below HP.out.below)).mono ?_
       rintro e w4 ⟨rfl, rfl⟩
       clear hfd hfo
       go_wp2_with fail
       go_at_call 150
       refine (part_spot_may.calls run a most _ _ _ _ hmay).mono ?_
       rintro e w5 ⟨rfl, b5⟩
       have HP5 := Lib.hid (HP.out.on b5)
       clear z0 z1 z2 b5
       go_wp2
       go_roundw
       case rel => exact ⟨k + 1, by go_num, by omega, by rw [hst], Lib.hid (by rw [hst]; exact HP5.out)⟩
       case measure => simp [intOf]; omega
      | true =>
       have hst : stepW l run a j (k + 1) = takeO l (stepW l run a j k) (p : Int) := by rw [stepW_succ, step_take l run a _ _ _ ho hb]
       obtain ⟨st, hs⟩ : ∃ st, stepW l run a j k = st := ⟨_, rfl⟩
       rw [hs] at HP hst ⊢
       go_wp2_with fail
       go_at_call 40
       refine (hfd _ (HT0.out.below HP.out.below)).mono ?_
       rintro e w4 ⟨rfl, rfl⟩
       clear hfd hfo
       go_wp2_with fail
       go_at_call 150
       refine (part_spot_may.calls run a most _ _ _ _ hmay).mono ?_
       rintro e w5 ⟨rfl, b5⟩
       have HP5 := Lib.hid (HP.out.on b5)
       clear z0 z1 z2 b5
       have hpl : p < l.length := (List.getElem?_eq_some_iff.1 hx).1
       have hrd : rd_T50 l (p : Int) = x := by simp [rd_T50, hx]
       obtain ⟨ad, e, g0, g1, g2, g3, g4⟩ := at_T50 HR0.out (p : Int) (by omega) (by omega)
       rw [hrd] at g0 g1 g2 g3 g4
       simp only [Int.toNat_natCast] at g0 g1 g2 g3 g4
       cases e
       have hbb := HP5.out.below
       replace g0 := (hbb.cell (World.block_lt_of_cell? w _ g0)).trans g0
       replace g1 := (hbb.cell (World.block_lt_of_cell? w _ g1)).trans g1
       replace g2 := (hbb.cell (World.block_lt_of_cell? w _ g2)).trans g2
       replace g3 := (hbb.cell (World.block_lt_of_cell? w _ g3)).trans g3
       replace g4 := (hbb.cell (World.block_lt_of_cell? w _ g4)).trans g4
       have hu33 := Tryz.underlying50
       clear hbb
       have HX := Lib.hid (And.intro hst (And.intro hx hk4))
       clear hst hx hs ho hpx hrd hk4
       cases st with
       | none =>
        go_wp2_with ((with_reducible refine gate_dst (N := 13) rfl ?_); (try (refine gate_guard (by rfl) ?_; dsimp only)); refine box_event ?hg (N := 13) ?hd (cs := chC none) (t := 175) ?hr ?_; (case hd => rfl); (case hg => rfl); (case hr => first | (go_simp; done) | (go_simp; rfl)); intro gn hg w6 hbox hb; have HN := Lib.hid (And.intro hg (And.intro hbox hb)); have hq := (HP5.out.on hb).out; have hne : gn ≠ g8 := (by have := blk_lt HP5.out.out; omega); have hne2 : g8 ≠ gn := fun e_ => hne e_.symm; have c0 : w6.cell? ⟨gn, 0, none⟩ = some (.int .i64 0) := (kCe hbox 0).trans rfl; have c1 : w6.cell? ⟨gn, 1, none⟩ = some (.string (⟨#[]⟩ : ByteArray)) := (kCe hbox 1).trans rfl; have c2 : w6.cell? ⟨gn, 2, none⟩ = some (.string (⟨#[]⟩ : ByteArray)) := (kCe hbox 2).trans rfl; have c3 : w6.cell? ⟨gn, 3, none⟩ = some (.int .i64 0) := (kCe hbox 3).trans rfl; have c4 : w6.cell? ⟨gn, 4, none⟩ = some (.int .i64 0) := (kCe hbox 4).trans rfl; have c5 : w6.cell? ⟨gn, 5, none⟩ = some (.int .i64 0) := (kCe hbox 5).trans rfl; have f0 := bFz hbox 0; have f1 := bFz hbox 1; have f2 := bFz hbox 2; have f3 := bFz hbox 3; have f4 := bFz hbox 4; have f5 := bFz hbox 5; have e0 : w6.cell? ⟨g8, 0, none⟩ = some (.int .i64 0) := (kCe hq 0).trans rfl; have e1 : w6.cell? ⟨g8, 1, none⟩ = some (.string (⟨#[]⟩ : ByteArray)) := (kCe hq 1).trans rfl; have e2 : w6.cell? ⟨g8, 2, none⟩ = some (.string (⟨#[]⟩ : ByteArray)) := (kCe hq 2).trans rfl; have e3 : w6.cell? ⟨g8, 3, none⟩ = some (.int .i64 0) := (kCe hq 3).trans rfl; have e4 : w6.cell? ⟨g8, 4, none⟩ = some (.int .i64 0) := (kCe hq 4).trans rfl; have e5 : w6.cell? ⟨g8, 5, none⟩ = some (.int .i64 0) := (kCe hq 5).trans rfl; have h0 := bFz hq 0; have h1 := bFz hq 1; have h2 := bFz hq 2; have h3 := bFz hq 3; have h4 := bFz hq 4; have h5 := bFz hq 5; clear hg hbox hb hq g0 g1 g2 g3 g4)
        refine ⟨⟨k + 1, by go_num, ?_, ?_, Lib.hid ?_⟩, ?_⟩
        ·
         have := HX.out.2.2; omega
        ·
         rw [HX.out.1, takeO_none l p x HX.out.2.1]; rfl
        ·
         rw [HX.out.1, takeO_none l p x HX.out.2.1]; exact ((HP5.out.on HN.out.2.2).put_far (by have h1_ := blk_lt HP5.out.spot; have h3_ := HN.out.1; omega) (by have h1_ := blk_lt HP5.out.out; have h3_ := HN.out.1; omega) (by have h1_ := blk_lt HP5.out.out; have h2_ := HP5.out.ge; have h3_ := HN.out.1; omega) _ _ _ _ _ _).take x (p : Int)
        ·
         have := HX.out.2.2; simp [intOf]; omega
       | some d =>
        obtain ⟨y, q⟩ := d
        obtain ⟨b, hb2⟩ : ∃ b, overP x (p : Int) y q = b := ⟨_, rfl⟩
        have HOV := Lib.hid (And.intro (over_is x y (p : Int) q) hb2)
        clear hb2
        cases b with
        | false =>
         go_wp2_with (first | ((with_reducible refine gate_dst (N := 13) rfl ?_); (try (refine gate_guard (by rfl) ?_; dsimp only)); refine box_event ?hg (N := 13) ?hd (cs := chC none) (t := 175) ?hr ?_; (case hd => rfl); (case hg => rfl); (case hr => first | (go_simp; done) | (go_simp; rfl)); intro gn hg w6 hbox hb; have HN := Lib.hid (And.intro hg (And.intro hbox hb)); have hq := (HP5.out.on hb).out; have hne : gn ≠ g8 := (by have := blk_lt HP5.out.out; omega); have hne2 : g8 ≠ gn := fun e_ => hne e_.symm; have c0 : w6.cell? ⟨gn, 0, none⟩ = some (.int .i64 0) := (kCe hbox 0).trans rfl; have c1 : w6.cell? ⟨gn, 1, none⟩ = some (.string (⟨#[]⟩ : ByteArray)) := (kCe hbox 1).trans rfl; have c2 : w6.cell? ⟨gn, 2, none⟩ = some (.string (⟨#[]⟩ : ByteArray)) := (kCe hbox 2).trans rfl; have c3 : w6.cell? ⟨gn, 3, none⟩ = some (.int .i64 0) := (kCe hbox 3).trans rfl; have c4 : w6.cell? ⟨gn, 4, none⟩ = some (.int .i64 0) := (kCe hbox 4).trans rfl; have c5 : w6.cell? ⟨gn, 5, none⟩ = some (.int .i64 0) := (kCe hbox 5).trans rfl; have f0 := bFz hbox 0; have f1 := bFz hbox 1; have f2 := bFz hbox 2; have f3 := bFz hbox 3; have f4 := bFz hbox 4; have f5 := bFz hbox 5; have e0 : w6.cell? ⟨g8, 0, none⟩ = some (.int .i64 y.f0) := (kCe hq 0).trans rfl; have e1 : w6.cell? ⟨g8, 1, none⟩ = some (.string y.f1) := (kCe hq 1).trans rfl; have e2 : w6.cell? ⟨g8, 2, none⟩ = some (.string y.f2) := (kCe hq 2).trans rfl; have e3 : w6.cell? ⟨g8, 3, none⟩ = some (.int .i64 y.f3) := (kCe hq 3).trans rfl; have e4 : w6.cell? ⟨g8, 4, none⟩ = some (.int .i64 y.f4) := (kCe hq 4).trans rfl; have e5 : w6.cell? ⟨g8, 5, none⟩ = some (.int .i64 q) := (kCe hq 5).trans rfl; have h0 := bFz hq 0; have h1 := bFz hq 1; have h2 := bFz hq 2; have h3 := bFz hq 3; have h4 := bFz hq 4; have h5 := bFz hq 5; clear hg hbox hb hq g0 g1 g2 g3 g4) | (go_at_call 151; refine (part_choice_over.calls _ _ _ _ _ _ _ _ _ _ _ _ _ _ (HOV.out.1.trans (congrArg some HOV.out.2))).mono ?_; rintro e w8 ⟨rfl, b8⟩; have HQ8 := Lib.hid (And.intro (kBe (put_choice none HN.out.2.1 x (p : Int)) b8) (((HP5.out.on HN.out.2.2).put_far (by have h1_ := blk_lt HP5.out.spot; have h3_ := HN.out.1; omega) (by have h1_ := blk_lt HP5.out.out; have h3_ := HN.out.1; omega) (by have h1_ := blk_lt HP5.out.out; have h2_ := HP5.out.ge; have h3_ := HN.out.1; omega) _ _ _ _ _ _).on b8)); clear c0 c1 c2 c3 c4 c5 f0 f1 f2 f3 f4 f5 e0 e1 e2 e3 e4 e5 h0 h1 h2 h3 h4 h5; have m0 : w8.cell? ⟨gn, 0, none⟩ = some (.int .i64 x.f0) := (kCe HQ8.out.1 0).trans rfl; have m1 : w8.cell? ⟨gn, 1, none⟩ = some (.string x.f1) := (kCe HQ8.out.1 1).trans rfl; have m2 : w8.cell? ⟨gn, 2, none⟩ = some (.string x.f2) := (kCe HQ8.out.1 2).trans rfl; have m3 : w8.cell? ⟨gn, 3, none⟩ = some (.int .i64 x.f3) := (kCe HQ8.out.1 3).trans rfl; have m4 : w8.cell? ⟨gn, 4, none⟩ = some (.int .i64 x.f4) := (kCe HQ8.out.1 4).trans rfl; have m5 : w8.cell? ⟨gn, 5, none⟩ = some (.int .i64 p) := (kCe HQ8.out.1 5).trans rfl; have n0 : w8.cell? ⟨g8, 0, none⟩ = some (.int .i64 y.f0) := (kCe HQ8.out.2.out 0).trans rfl; have n1 : w8.cell? ⟨g8, 1, none⟩ = some (.string y.f1) := (kCe HQ8.out.2.out 1).trans rfl; have n2 : w8.cell? ⟨g8, 2, none⟩ = some (.string y.f2) := (kCe HQ8.out.2.out 2).trans rfl; have n3 : w8.cell? ⟨g8, 3, none⟩ = some (.int .i64 y.f3) := (kCe HQ8.out.2.out 3).trans rfl; have n4 : w8.cell? ⟨g8, 4, none⟩ = some (.int .i64 y.f4) := (kCe HQ8.out.2.out 4).trans rfl; have n5 : w8.cell? ⟨g8, 5, none⟩ = some (.int .i64 q) := (kCe HQ8.out.2.out 5).trans rfl; have o0 := bFz HQ8.out.2.out 0; have o1 := bFz HQ8.out.2.out 1; have o2 := bFz HQ8.out.2.out 2; have o3 := bFz HQ8.out.2.out 3; have o4 := bFz HQ8.out.2.out 4; have o5 := bFz HQ8.out.2.out 5; clear b8))
         refine ⟨⟨k + 1, by go_num, ?_, ?_, Lib.hid ?_⟩, ?_⟩
         ·
          have := HX.out.2.2; omega
         ·
          rw [HX.out.1, takeO_some l p x y q HX.out.2.1, HOV.out.2, if_neg (by decide)]; rfl
         ·
          rw [HX.out.1, takeO_some l p x y q HX.out.2.1, HOV.out.2, if_neg (by decide)]; exact HQ8.out.2
         ·
          have := HX.out.2.2; simp [intOf]; omega
        | true =>
         go_wp2_with (first | ((with_reducible refine gate_dst (N := 13) rfl ?_); (try (refine gate_guard (by rfl) ?_; dsimp only)); refine box_event ?hg (N := 13) ?hd (cs := chC none) (t := 175) ?hr ?_; (case hd => rfl); (case hg => rfl); (case hr => first | (go_simp; done) | (go_simp; rfl)); intro gn hg w6 hbox hb; have HN := Lib.hid (And.intro hg (And.intro hbox hb)); have hq := (HP5.out.on hb).out; have hne : gn ≠ g8 := (by have := blk_lt HP5.out.out; omega); have hne2 : g8 ≠ gn := fun e_ => hne e_.symm; have c0 : w6.cell? ⟨gn, 0, none⟩ = some (.int .i64 0) := (kCe hbox 0).trans rfl; have c1 : w6.cell? ⟨gn, 1, none⟩ = some (.string (⟨#[]⟩ : ByteArray)) := (kCe hbox 1).trans rfl; have c2 : w6.cell? ⟨gn, 2, none⟩ = some (.string (⟨#[]⟩ : ByteArray)) := (kCe hbox 2).trans rfl; have c3 : w6.cell? ⟨gn, 3, none⟩ = some (.int .i64 0) := (kCe hbox 3).trans rfl; have c4 : w6.cell? ⟨gn, 4, none⟩ = some (.int .i64 0) := (kCe hbox 4).trans rfl; have c5 : w6.cell? ⟨gn, 5, none⟩ = some (.int .i64 0) := (kCe hbox 5).trans rfl; have f0 := bFz hbox 0; have f1 := bFz hbox 1; have f2 := bFz hbox 2; have f3 := bFz hbox 3; have f4 := bFz hbox 4; have f5 := bFz hbox 5; have e0 : w6.cell? ⟨g8, 0, none⟩ = some (.int .i64 y.f0) := (kCe hq 0).trans rfl; have e1 : w6.cell? ⟨g8, 1, none⟩ = some (.string y.f1) := (kCe hq 1).trans rfl; have e2 : w6.cell? ⟨g8, 2, none⟩ = some (.string y.f2) := (kCe hq 2).trans rfl; have e3 : w6.cell? ⟨g8, 3, none⟩ = some (.int .i64 y.f3) := (kCe hq 3).trans rfl; have e4 : w6.cell? ⟨g8, 4, none⟩ = some (.int .i64 y.f4) := (kCe hq 4).trans rfl; have e5 : w6.cell? ⟨g8, 5, none⟩ = some (.int .i64 q) := (kCe hq 5).trans rfl; have h0 := bFz hq 0; have h1 := bFz hq 1; have h2 := bFz hq 2; have h3 := bFz hq 3; have h4 := bFz hq 4; have h5 := bFz hq 5; clear hg hbox hb hq g0 g1 g2 g3 g4) | (go_at_call 151; refine (part_choice_over.calls _ _ _ _ _ _ _ _ _ _ _ _ _ _ (HOV.out.1.trans (congrArg some HOV.out.2))).mono ?_; rintro e w8 ⟨rfl, b8⟩; have HQ8 := Lib.hid (And.intro (kBe (put_choice none HN.out.2.1 x (p : Int)) b8) (((HP5.out.on HN.out.2.2).put_far (by have h1_ := blk_lt HP5.out.spot; have h3_ := HN.out.1; omega) (by have h1_ := blk_lt HP5.out.out; have h3_ := HN.out.1; omega) (by have h1_ := blk_lt HP5.out.out; have h2_ := HP5.out.ge; have h3_ := HN.out.1; omega) _ _ _ _ _ _).on b8)); clear c0 c1 c2 c3 c4 c5 f0 f1 f2 f3 f4 f5 e0 e1 e2 e3 e4 e5 h0 h1 h2 h3 h4 h5; have m0 : w8.cell? ⟨gn, 0, none⟩ = some (.int .i64 x.f0) := (kCe HQ8.out.1 0).trans rfl; have m1 : w8.cell? ⟨gn, 1, none⟩ = some (.string x.f1) := (kCe HQ8.out.1 1).trans rfl; have m2 : w8.cell? ⟨gn, 2, none⟩ = some (.string x.f2) := (kCe HQ8.out.1 2).trans rfl; have m3 : w8.cell? ⟨gn, 3, none⟩ = some (.int .i64 x.f3) := (kCe HQ8.out.1 3).trans rfl; have m4 : w8.cell? ⟨gn, 4, none⟩ = some (.int .i64 x.f4) := (kCe HQ8.out.1 4).trans rfl; have m5 : w8.cell? ⟨gn, 5, none⟩ = some (.int .i64 p) := (kCe HQ8.out.1 5).trans rfl; have n0 : w8.cell? ⟨g8, 0, none⟩ = some (.int .i64 y.f0) := (kCe HQ8.out.2.out 0).trans rfl; have n1 : w8.cell? ⟨g8, 1, none⟩ = some (.string y.f1) := (kCe HQ8.out.2.out 1).trans rfl; have n2 : w8.cell? ⟨g8, 2, none⟩ = some (.string y.f2) := (kCe HQ8.out.2.out 2).trans rfl; have n3 : w8.cell? ⟨g8, 3, none⟩ = some (.int .i64 y.f3) := (kCe HQ8.out.2.out 3).trans rfl; have n4 : w8.cell? ⟨g8, 4, none⟩ = some (.int .i64 y.f4) := (kCe HQ8.out.2.out 4).trans rfl; have n5 : w8.cell? ⟨g8, 5, none⟩ = some (.int .i64 q) := (kCe HQ8.out.2.out 5).trans rfl; have o0 := bFz HQ8.out.2.out 0; have o1 := bFz HQ8.out.2.out 1; have o2 := bFz HQ8.out.2.out 2; have o3 := bFz HQ8.out.2.out 3; have o4 := bFz HQ8.out.2.out 4; have o5 := bFz HQ8.out.2.out 5; clear b8))
         refine ⟨⟨k + 1, by go_num, ?_, ?_, Lib.hid ?_⟩, ?_⟩
         ·
          have := HX.out.2.2; omega
         ·
          rw [HX.out.1, takeO_some l p x y q HX.out.2.1, HOV.out.2, if_pos rfl]; rfl
         ·
          rw [HX.out.1, takeO_some l p x y q HX.out.2.1, HOV.out.2, if_pos rfl]; exact HQ8.out.2.take x (p : Int)
         ·
          have := HX.out.2.2; simp [intOf]; omega
    ·
     obtain rfl : k = 4 := by omega
     rw [stepW_four] at HP
     go_wp2
     go_roundw
     case rel => exact ⟨j + 1, by go_num, by unfold upTo; omega, by rw [stepW_four], HP⟩
     case measure => simp [intOf]; unfold upTo; omega
  ·
   have hju : j = upTo run a most := by unfold upTo at *; omega
   obtain ⟨st, hs⟩ : ∃ st, bestS l run a j = st := ⟨_, rfl⟩
   rw [hs] at HP ⊢
   have HE := Lib.hid (show bestS l run a (upTo run a most) = st from by rw [← hju]; exact hs)
   clear hs hju
   go_wp2_with fail
   go_at_call 149
   refine (hLc _).mono ?_
   rintro e w3 ⟨rfl, b3⟩
   have HP3 := Lib.hid (HP.out.on b3)
   clear b3 hLc z0 z1 z2
   cases st with
   | none =>
    have z5 : w3.cell? ⟨g8, 5, none⟩ = some (.int .i64 0) := (kCe HP3.out.out 5).trans rfl
    go_wp2
    first | go_ret3 | go_ret2
    exact ⟨by rw [HE.out]; first | rfl | (simp [ansB]; done), HP3.out.below⟩
   | some d =>
    obtain ⟨y, q⟩ := d
    have z5 : w3.cell? ⟨g8, 5, none⟩ = some (.int .i64 q) := (kCe HP3.out.out 5).trans rfl
    go_wp2
    first | go_ret3 | go_ret2
    exact ⟨by rw [HE.out]; first | rfl | (simp [ansB]; done), HP3.out.below⟩
end Go.Proofs.YtbpbniemjjhecaaGreat.G
end
