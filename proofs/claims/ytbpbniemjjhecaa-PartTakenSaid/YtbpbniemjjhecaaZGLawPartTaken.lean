import Derived.Test.YtbpbniemjjhecaaZGPartTaken
import Derived.Test.YtbpbniemjjhecaaZPureTaken
namespace Go.Proofs.Ytbpbniemjjhecaa.G
set_option linter.unusedVariables false
set_option linter.unusedSimpArgs false
open Go.RowKit Go.Maps Go.Proofs.Ytbpbniemjjhecaa.GM Go.Proofs.Ytbpbniemjjhecaa.GT Go.Proofs.Ytbpbniemjjhecaa.PChk Go.Proofs.Ytbpbniemjjhecaa.PureC Go.Proofs.YtbpbniemjjhecaaW.PrintWords Go.Proofs.YtbpbniemjjhecaaW.PrintLast Go.Proofs.YtbpbniemjjhecaaW.PrintMore
set_option maxHeartbeats 6400000 in
set_option maxRecDepth 100000 in
theorem pTaken_long (A0 : Option Addr) (c0 : Nat) (l0 : List Rl) (a1 : ByteArray) (a2 : Int) (w : World) (hr0 : Kd.C k33 w A0 l0.length l0) (hc0 : l0.length ≤ c0) (hL : w11_long.f 500 l0 = some true) :
  Calls Try.prog 7 #[.slice A0 l0.length c0, .string a1, .int .i64 a2] w fun e w' => e = .returned (.bool true) ∧ Below w.heap.size w w' := by
 have h1 := w11_long.calls 500 A0 c0 l0 true w hr0 hc0 hL
 clear hL hr0
 go_enter Try.func7, Try.ntmps7
 go_wp2_with fail
 go_at_call 25
 refine h1.mono ?_
 rintro e w1 ⟨rfl, b1⟩
 go_wp2_with fail
 go_at_call 26
 refine (w11_awake.calls true _ rfl).mono ?_
 rintro e w2 ⟨rfl, b2⟩
 go_wp2
 go_ret
 exact ⟨rfl, bSp b1.below b2⟩
set_option maxHeartbeats 6400000 in
set_option maxRecDepth 100000 in
theorem pTaken_far (A0 : Option Addr) (c0 : Nat) (l0 : List Rl) (a1 : ByteArray) (a2 : Int) (w : World) (hr0 : Kd.C k33 w A0 l0.length l0) (hc0 : l0.length ≤ c0) (hL : w11_long.f 500 l0 = some false) (h6 : 60 < a1.size) :
  Calls Try.prog 7 #[.slice A0 l0.length c0, .string a1, .int .i64 a2] w fun e w' => e = .returned (.bool true) ∧ Below w.heap.size w w' := by
 have h1 := w11_long.calls 500 A0 c0 l0 false w hr0 hc0 hL
 have h7 : decide ((60 : Int) < (a1.size : Int)) = true := decide_eq_true (by omega)
 clear hL hr0
 go_enter Try.func7, Try.ntmps7
 go_wp2_with fail
 go_at_call 25
 refine h1.mono ?_
 rintro e w1 ⟨rfl, b1⟩
 go_wp2_with fail
 go_at_call 26
 refine (w11_awake.calls true _ rfl).mono ?_
 rintro e w2 ⟨rfl, b2⟩
 go_wp2
 go_ret
 exact ⟨rfl, bSp b1.below b2⟩
set_option maxHeartbeats 6400000 in
set_option maxRecDepth 100000 in
theorem pTaken_none (A0 : Option Addr) (c0 : Nat) (l0 : List Rl) (a1 : ByteArray) (a2 : Int) (n e0 : Int) (w : World) (hr0 : Kd.C k33 w A0 l0.length l0) (hc0 : l0.length ≤ c0) (hL : w11_long.f 500 l0 = some false) (h6 : a1.size ≤ 60) (hn : trie_New.f l0 = some (none, n, e0)) (he : e0 ≠ 0) :
  Calls Try.prog 7 #[.slice A0 l0.length c0, .string a1, .int .i64 a2] w fun e w' => e = .returned (.bool true) ∧ Below w.heap.size w w' := by
 have h1 := w11_long.calls 500 A0 c0 l0 false w hr0 hc0 hL
 have HR := Lib.hid hr0
 have h7 : decide ((60 : Int) < (a1.size : Int)) = false := decide_eq_false (by omega)
 have heb : (e0 != 0) = true := bne_iff_ne.mpr he
 clear hL hr0 he
 go_enter Try.func7, Try.ntmps7
 go_wp2_with fail
 go_at_call 25
 refine h1.mono ?_
 rintro e w1 ⟨rfl, b1⟩
 have HB1 := Lib.hid b1.below
 clear b1 h1
 go_wp2_with fail
 go_at_call 11
 refine (trie_New.calls A0 c0 l0 none n e0 w1 (Kd.C_below HR.out HB1.out) hc0 hn).mono ?_
 rintro e w2 ⟨t, rfl, rfl, b2⟩
 have HB2 := Lib.hid (bSp HB1.out b2)
 clear b2
 go_wp2_with fail
 go_at_call 26
 refine (w11_awake.calls true _ rfl).mono ?_
 rintro e w4 ⟨rfl, b4⟩
 go_wp2
 go_ret
 exact ⟨rfl, bSp HB2.out b4⟩
end Go.Proofs.Ytbpbniemjjhecaa.G
namespace Go.Proofs.Ytbpbniemjjhecaa.PChk
open Go.RowKit Go.Proofs.Ytbpbniemjjhecaa.G Go.Proofs.Ytbpbniemjjhecaa.PureC Go.Proofs.YtbpbniemjjhecaaW.PrintWords
def w11_PartTaken.f (_ : Nat) (_ : List Rl) (_ : ByteArray) (_ : Int) : Option Bool := some true
theorem w11_PartTaken.calls (k : Nat) (A0 : Option Addr) (c0 : Nat) (l0 : List Rl) (a1 : ByteArray) (a2 : Int) (r : Bool) (w : World) (hr0 : Kd.C k33 w A0 l0.length l0) (hc0 : l0.length ≤ c0) (h : w11_PartTaken.f k l0 a1 a2 = some r) (hT : r = true) :
  Calls Try.prog 7 #[.slice A0 l0.length c0, .string a1, .int .i64 a2] w fun e w' => e = .returned (.bool r) ∧ Below w.heap.size w w' := by
 subst hT
 rcases long_is11 l0 500 (Nat.le_refl _) with h | ⟨h, hl, hs⟩
 ·
  exact pTaken_long A0 c0 l0 a1 a2 w hr0 hc0 h
 ·
  by_cases h6 : a1.size ≤ 60
  ·
   rcases table_two l0 with ht | ht
   ·
    have ht2 := table_check l0 (by omega) hs
    rw [ht] at ht2
    obtain ⟨h1, h2⟩ := new_apart l0 hl hs ht
    obtain ⟨_, h4, h3⟩ := (table_ok l0 (by omega) hs 0 0 ht2).1 rfl
    exact pTaken.calls 400 A0 c0 l0 a1 a2 true w hr0 hc0 h h6 h1 (fun v => taken_true v h3 hl a1 h6 a2) rfl
   ·
    exact pTaken_none A0 c0 l0 a1 a2 _ _ w hr0 hc0 h h6 (new_not l0 hl hs ht) ht
  ·
   exact pTaken_far A0 c0 l0 a1 a2 w hr0 hc0 h (by omega)
end Go.Proofs.Ytbpbniemjjhecaa.PChk
namespace Go.Proofs.Ytbpbniemjjhecaa.PureC
theorem partTaken_true (l0 : List Go.Proofs.Ytbpbniemjjhecaa.G.Rl) (a1 : ByteArray) (a2 : Int) (_ : a1.size ≤ 140737488351232) (_ : (Go.Lit.int .i64 a2).wf = true) : ∃ k, Go.Proofs.Ytbpbniemjjhecaa.PChk.w11_PartTaken.f k l0 a1 a2 = some true := ⟨0, rfl⟩
end Go.Proofs.Ytbpbniemjjhecaa.PureC
