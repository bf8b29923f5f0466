import Derived.Test.YtbpbniemjjhecaaZGPartTaken
import Derived.Test.YtbpbniemjjhecaaZGPartLeast
section
namespace Go.Proofs.Ytbpbniemjjhecaa.PureC
open Go.RowKit Go.Proofs.Ytbpbniemjjhecaa.PChk Go.Proofs.Ytbpbniemjjhecaa.G Go.Proofs.Ytbpbniemjjhecaa.GT Go.Proofs.YtbpbniemjjhecaaW.PrintWords Go.Proofs.YtbpbniemjjhecaaW.PrintLast
set_option linter.unusedSimpArgs false
end Go.Proofs.Ytbpbniemjjhecaa.PureC
end
section
namespace Go.Proofs.Ytbpbniemjjhecaa.PureC
open Go.RowKit Go.Proofs.Ytbpbniemjjhecaa.PChk Go.Proofs.Ytbpbniemjjhecaa.G Go.Proofs.Ytbpbniemjjhecaa.GT Go.Proofs.YtbpbniemjjhecaaW.PrintWords Go.Proofs.YtbpbniemjjhecaaW.PrintLast
set_option linter.unusedSimpArgs false
theorem elig_f (x : Rl) (run : ByteArray) (a most : Int) (hs : run.size ≤ 60) (hx : x.f1.size ≤ 50) : part_Eligible.f x.f0 x.f1 x.f2 x.f3 x.f4 run a most = some (eligP x run a most) := by
 unfold part_Eligible.f eligP
 rw [spot_is run a most (by omega), Option.bind_some]
 cases h : spotB run a with
 | false => rfl
 | true =>
  obtain ⟨b0, b1⟩ := spotB_at h
  have hw : wrap64 (a + (x.f1.size : Int)) = a + (x.f1.size : Int) := by unfold wrap64; omega
  rw [if_pos rfl, Bool.true_and, hw]
  by_cases h1 : 0 < x.f1.size
  ·
   rw [if_pos (by omega), decide_eq_true h1, Bool.true_and, show part_spot_left.f run a most = some (mn most ((run.size : Int) - a)) from by unfold part_spot_left.f; rw [show wrap64 ((run.size : Int) - a) = (run.size : Int) - a from by unfold wrap64; omega], Option.bind_some]
   by_cases h2 : (x.f1.size : Int) ≤ mn most ((run.size : Int) - a)
   ·
    have h3 := (mn_le _ _ _ h2).2
    rw [if_pos h2, decide_eq_true h2, Bool.true_and, if_pos b0, if_pos (by omega), if_pos (by omega)]
    by_cases h4 : run.extract a.toNat (a + (x.f1.size : Int)).toNat = x.f1
    ·
     rw [if_pos (by rw [h4]), decide_eq_true h4, Bool.true_and, may_is run a most x.f0 _ hw, Option.bind_some]
    ·
     rw [if_neg (fun e => h4 (bytes_ext e)), decide_eq_false h4, Bool.false_and]
   ·
    rw [if_neg h2, decide_eq_false h2, Bool.false_and, Bool.false_and]
  ·
   rw [if_neg (by omega), decide_eq_false h1, Bool.false_and, Bool.false_and, Bool.false_and]
theorem least_go {l : List Rl} (hA : Apart l) (hl : l.length ≤ 450) (hsh : ∀ x ∈ l, Short x) {run : ByteArray} (hs : run.size ≤ 60) {a most : Int} {x : Rl} {i : Int} (hb : bestS l run a (upTo run a most) = some (x, i)) (h0 : 0 ≤ i) (hi : l[i.toNat]? = some x) : ∀ (n k p : Nat), p + n = l.length → n + 1 ≤ k → pLeast.l0 k l run a most i (p : Int) = some true
 | 0, k, p, hp, hk => by
  obtain ⟨k, rfl⟩ : ∃ m, k = m + 1 := ⟨k - 1, by omega⟩
  rw [pLeast.l0, if_neg (by omega)]
  rfl
 | n + 1, k, p, hp, hk => by
  obtain ⟨k, rfl⟩ : ∃ m, k = m + 1 := ⟨k - 1, by omega⟩
  have hpl : p < l.length := by omega
  obtain ⟨y, hy⟩ : ∃ y, l[p]? = some y := ⟨l[p], List.getElem?_eq_getElem hpl⟩
  have hil : i < l.length := by have := (List.getElem?_eq_some_iff.1 hi).1; omega
  have hrp : rd_T33 l (p : Int) = y := by simp [rd_T33, hy]
  have hri : rd_T33 l i = x := by simp [rd_T33, hi]
  have hnext := least_go hA hl hsh hs hb h0 hi n k (p + 1) (by omega) (by omega)
  rw [pLeast.l0, if_pos (by omega), if_pos (by omega), hrp, hri, elig_f y run a most hs (hsh y (List.mem_of_getElem? hy)).1, Option.bind_some, wrap_of (by omega) (by omega), show ((p : Int) + 1) = ((p + 1 : Nat) : Int) from by omega]
  cases he : eligP y run a most with
  | false => rw [if_neg (by decide)]; exact hnext
  | true =>
   have ho := elig_least hA hb hy he
   rw [if_pos rfl, if_pos h0, if_pos hil]
   unfold overP at ho
   by_cases c1 : y.f3 = x.f3
   ·
    rw [if_neg (fun h => h c1)] at ho
    rw [if_neg (by omega), if_pos c1]
    by_cases c2 : y.f1.size = x.f1.size
    ·
     rw [if_neg (fun h => h c2), decide_eq_false_iff_not] at ho
     rw [if_neg (by omega), if_pos (by omega), if_neg ho]
     exact hnext
    ·
     rw [if_pos c2, decide_eq_false_iff_not] at ho
     rw [if_neg (by omega), if_neg (by omega)]
     exact hnext
   ·
    rw [if_pos c1, decide_eq_false_iff_not] at ho
    rw [if_neg ho, if_neg c1]
    exact hnext
theorem least_true {l : List Rl} (v : Value) (hA : Apart l) (hw : Whole l) (hl : l.length ≤ 450) (hsh : ∀ x ∈ l, Short x) (run : ByteArray) (hs : run.size ≤ 60) (a most : Int) : pLeast.f 600 l run a most ⟨v, some (some l)⟩ = some true := by
 have hb := bestO_is (l := l) hw (run := run) (a := a) (most := most) (by omega)
 have hj : pLeast.j0 600 l run a most (((bestO l run a most).map (·.2)).getD 0) (bestO l run a most).isSome (spotB run a && decide (0 < most)) = some true := by
  rw [← hb, show (600 : Nat) = 597 + 3 from rfl, pLeast.j0]
  cases ho : bestO l run a most with
  | none => rfl
  | some d =>
   obtain ⟨x, i⟩ := d
   have hsp : spotB run a = true := by
    unfold bestO at ho
    cases h : spotB run a with
    | true => rfl
    | false => rw [h, if_neg (by decide)] at ho; cases ho
   have hbs : bestS l run a (upTo run a most) = some (x, i) := by
    unfold bestO at ho
    rw [hsp, if_pos rfl] at ho
    exact ho
   obtain ⟨e1, e2, e3, e4⟩ := elig_best hsp hbs
   have hil : i < l.length := by have := (List.getElem?_eq_some_iff.1 e2).1; omega
   have hri : rd_T33 l i = x := by simp [rd_T33, e2]
   show (if (true != true) = true then _ else if true = true then pLeast.j1 (597 + 2) l run a most i true false else _) = some true
   rw [if_neg (by decide), if_pos rfl, pLeast.j1, if_neg (by decide), if_pos rfl, if_neg (by omega), if_neg (by omega), if_pos e3, if_pos hil, hri, elig_f x run a most hs (hsh x (List.mem_of_getElem? e2)).1, Option.bind_some, e1, if_pos rfl, decide_eq_false (by omega), pLeast.j2, if_neg (by decide)]
   exact least_go hA hl hsh hs hbs e3 e2 l.length 597 0 (by omega) (by omega)
 unfold pLeast.f
 rw [show part_Best.f ⟨v, some (some l)⟩ run a most = some (((bestO l run a most).map (·.2)).getD 0, (bestO l run a most).isSome) from by unfold part_Best.f; simp only; rw [if_pos (by omega)], Option.bind_some, show chars_Case.f run = some (caseF run) from if_pos (by omega), Option.bind_some]
 simp only
 by_cases hc : caseF run = 1
 ·
  rw [if_pos hc]
  by_cases h0 : a ≥ 0
  ·
   rw [if_pos h0]
   by_cases h1 : a < (run.size : Int)
   ·
    rw [if_pos h1]
    rw [show spotB run a = true from by unfold spotB; rw [if_pos hc, if_pos h0]; exact decide_eq_true h1, Bool.true_and] at hj
    exact hj
   ·
    rw [if_neg h1]
    rw [show spotB run a = false from by unfold spotB; rw [if_pos hc, if_pos h0]; exact decide_eq_false h1, Bool.false_and] at hj
    exact hj
  ·
   rw [if_neg h0]
   rw [show spotB run a = false from by unfold spotB; rw [if_pos hc, if_neg h0], Bool.false_and] at hj
   exact hj
 ·
  rw [if_neg hc]
  rw [show spotB run a = false from by unfold spotB; rw [if_neg hc], Bool.false_and] at hj
  exact hj
end Go.Proofs.Ytbpbniemjjhecaa.PureC
end
section
namespace Go.Proofs.Ytbpbniemjjhecaa.G
set_option linter.unusedVariables false
set_option linter.unusedSimpArgs false
open Go.RowKit Go.Maps Go.Proofs.Ytbpbniemjjhecaa.GM Go.Proofs.Ytbpbniemjjhecaa.GT Go.Proofs.Ytbpbniemjjhecaa.PChk Go.Proofs.Ytbpbniemjjhecaa.PureC Go.Proofs.YtbpbniemjjhecaaW.PrintWords Go.Proofs.YtbpbniemjjhecaaW.PrintLast Go.Proofs.YtbpbniemjjhecaaW.PrintMore
set_option maxHeartbeats 6400000 in
set_option maxRecDepth 100000 in
theorem pLeast_long (A0 : Option Addr) (c0 : Nat) (l0 : List Rl) (a1 : ByteArray) (a2 a3 : Int) (w : World) (hr0 : Kd.C k33 w A0 l0.length l0) (hc0 : l0.length ≤ c0) (hL : w11_long.f 500 l0 = some true) :
  Calls Try.prog 8 #[.slice A0 l0.length c0, .string a1, .int .i64 a2, .int .i64 a3] w fun e w' => e = .returned (.bool true) ∧ Below w.heap.size w w' := by
 have h1 := w11_long.calls 500 A0 c0 l0 true w hr0 hc0 hL
 clear hL hr0
 go_enter Try.func8, Try.ntmps8
 go_wp2_with fail
 go_at_call 25
 refine h1.mono ?_
 rintro e w1 ⟨rfl, b1⟩
 go_wp2_with fail
 go_at_call 26
 refine (w11_awake.calls true _ rfl).mono ?_
 rintro e w2 ⟨rfl, b2⟩
 go_wp2
 go_ret
 exact ⟨rfl, bSp b1.below b2⟩
set_option maxHeartbeats 6400000 in
set_option maxRecDepth 100000 in
theorem pLeast_far (A0 : Option Addr) (c0 : Nat) (l0 : List Rl) (a1 : ByteArray) (a2 a3 : Int) (w : World) (hr0 : Kd.C k33 w A0 l0.length l0) (hc0 : l0.length ≤ c0) (hL : w11_long.f 500 l0 = some false) (h6 : 60 < a1.size) :
  Calls Try.prog 8 #[.slice A0 l0.length c0, .string a1, .int .i64 a2, .int .i64 a3] w fun e w' => e = .returned (.bool true) ∧ Below w.heap.size w w' := by
 have h1 := w11_long.calls 500 A0 c0 l0 false w hr0 hc0 hL
 have h7 : decide ((60 : Int) < (a1.size : Int)) = true := decide_eq_true (by omega)
 clear hL hr0
 go_enter Try.func8, Try.ntmps8
 go_wp2_with fail
 go_at_call 25
 refine h1.mono ?_
 rintro e w1 ⟨rfl, b1⟩
 go_wp2_with fail
 go_at_call 26
 refine (w11_awake.calls true _ rfl).mono ?_
 rintro e w2 ⟨rfl, b2⟩
 go_wp2
 go_ret
 exact ⟨rfl, bSp b1.below b2⟩
set_option maxHeartbeats 6400000 in
set_option maxRecDepth 100000 in
theorem pLeast_none (A0 : Option Addr) (c0 : Nat) (l0 : List Rl) (a1 : ByteArray) (a2 a3 : Int) (n e0 : Int) (w : World) (hr0 : Kd.C k33 w A0 l0.length l0) (hc0 : l0.length ≤ c0) (hL : w11_long.f 500 l0 = some false) (h6 : a1.size ≤ 60) (hn : trie_New.f l0 = some (none, n, e0)) (he : e0 ≠ 0) :
  Calls Try.prog 8 #[.slice A0 l0.length c0, .string a1, .int .i64 a2, .int .i64 a3] w fun e w' => e = .returned (.bool true) ∧ Below w.heap.size w w' := by
 have h1 := w11_long.calls 500 A0 c0 l0 false w hr0 hc0 hL
 have HR := Lib.hid hr0
 have h7 : decide ((60 : Int) < (a1.size : Int)) = false := decide_eq_false (by omega)
 have heb : (e0 != 0) = true := bne_iff_ne.mpr he
 clear hL hr0 he
 go_enter Try.func8, Try.ntmps8
 go_wp2_with fail
 go_at_call 25
 refine h1.mono ?_
 rintro e w1 ⟨rfl, b1⟩
 have HB1 := Lib.hid b1.below
 clear b1 h1
 go_wp2_with fail
 go_at_call 11
 refine (trie_New.calls A0 c0 l0 none n e0 w1 (Kd.C_below HR.out HB1.out) hc0 hn).mono ?_
 rintro e w2 ⟨t, rfl, rfl, b2⟩
 have HB2 := Lib.hid (bSp HB1.out b2)
 clear b2
 go_wp2_with fail
 go_at_call 26
 refine (w11_awake.calls true _ rfl).mono ?_
 rintro e w4 ⟨rfl, b4⟩
 go_wp2
 go_ret
 exact ⟨rfl, bSp HB2.out b4⟩
end Go.Proofs.Ytbpbniemjjhecaa.G
namespace Go.Proofs.Ytbpbniemjjhecaa.PChk
open Go.RowKit Go.Proofs.Ytbpbniemjjhecaa.G Go.Proofs.Ytbpbniemjjhecaa.PureC Go.Proofs.YtbpbniemjjhecaaW.PrintWords
def w11_PartLeast.f (_ : Nat) (_ : List Rl) (_ : ByteArray) (_ : Int) (_ : Int) : Option Bool := some true
theorem w11_PartLeast.calls (k : Nat) (A0 : Option Addr) (c0 : Nat) (l0 : List Rl) (a1 : ByteArray) (a2 a3 : Int) (r : Bool) (w : World) (hr0 : Kd.C k33 w A0 l0.length l0) (hc0 : l0.length ≤ c0) (h : w11_PartLeast.f k l0 a1 a2 a3 = some r) (hT : r = true) :
  Calls Try.prog 8 #[.slice A0 l0.length c0, .string a1, .int .i64 a2, .int .i64 a3] w fun e w' => e = .returned (.bool r) ∧ Below w.heap.size w w' := by
 subst hT
 rcases long_is11 l0 500 (Nat.le_refl _) with h | ⟨h, hl, hs⟩
 ·
  exact pLeast_long A0 c0 l0 a1 a2 a3 w hr0 hc0 h
 ·
  by_cases h6 : a1.size ≤ 60
  ·
   rcases table_two l0 with ht | ht
   ·
    have ht2 := table_check l0 (by omega) hs
    rw [ht] at ht2
    obtain ⟨h1, h2⟩ := new_apart l0 hl hs ht
    obtain ⟨_, h4, h3⟩ := (table_ok l0 (by omega) hs 0 0 ht2).1 rfl
    exact pLeast.calls 600 A0 c0 l0 a1 a2 a3 true w hr0 hc0 h h6 h1 (fun v => least_true v h2 h3 hl hs a1 h6 a2 a3) rfl
   ·
    exact pLeast_none A0 c0 l0 a1 a2 a3 _ _ w hr0 hc0 h h6 (new_not l0 hl hs ht) ht
  ·
   exact pLeast_far A0 c0 l0 a1 a2 a3 w hr0 hc0 h (by omega)
end Go.Proofs.Ytbpbniemjjhecaa.PChk
namespace Go.Proofs.Ytbpbniemjjhecaa.PureC
theorem partLeast_true (l0 : List Go.Proofs.Ytbpbniemjjhecaa.G.Rl) (a1 : ByteArray) (a2 a3 : Int) (_ : a1.size ≤ 140737488351232) (_ : (Go.Lit.int .i64 a2).wf = true) (_ : (Go.Lit.int .i64 a3).wf = true) : ∃ k, Go.Proofs.Ytbpbniemjjhecaa.PChk.w11_PartLeast.f k l0 a1 a2 a3 = some true := ⟨0, rfl⟩
end Go.Proofs.Ytbpbniemjjhecaa.PureC
end
