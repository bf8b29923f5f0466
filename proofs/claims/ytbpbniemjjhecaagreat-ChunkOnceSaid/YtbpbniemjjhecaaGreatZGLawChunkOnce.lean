import Derived.Test.YtbpbniemjjhecaaGreatZGChunkTOnce
import Derived.Test.YtbpbniemjjhecaaGreatZPureChunkOnce
import Derived.Test.YtbpbniemjjhecaaGreatZPureLong12
import Derived.Test.YtbpbniemjjhecaaGreatZPChk14
namespace Go.Proofs.YtbpbniemjjhecaaGreat.G
set_option linter.unusedVariables false
set_option linter.unusedSimpArgs false
open Go.RowKit Go.Maps Go.Proofs.YtbpbniemjjhecaaGreat.GM Go.Proofs.YtbpbniemjjhecaaGreat.GT Go.Proofs.YtbpbniemjjhecaaGreat.PChk Go.Proofs.YtbpbniemjjhecaaGreat.PureC Go.Proofs.YtbpbniemjjhecaaGreatW.PrintWords Go.Proofs.YtbpbniemjjhecaaGreatW.PrintLast Go.Proofs.YtbpbniemjjhecaaGreatW.PrintMore
set_option maxHeartbeats 6400000 in
set_option maxRecDepth 100000 in
theorem pOnce_long (A0 : Option Addr) (c0 : Nat) (l0 : List Rl) (A1 : Option Addr) (c1 : Nat) (l1 : List S42) (w : World) (hr0 : Kd.C k50 w A0 l0.length l0) (hc0 : l0.length ≤ c0) (hr1 : Kd.C k42 w A1 l1.length l1) (hc1 : l1.length ≤ c1) (hL : long12.f 500 l0 = some true) :
  Calls Tryz.prog 5 #[.slice A0 l0.length c0, .slice A1 l1.length c1] w fun e w' => e = .returned (.bool true) ∧ Below w.heap.size w w' := by
 have h1 := long12.calls 500 A0 c0 l0 true w hr0 hc0 hL
 clear hL hr0
 go_enter Tryz.func5, Tryz.ntmps5
 go_wp2_with fail
 go_at_call 7
 refine h1.mono ?_
 rintro e w1 ⟨rfl, b1⟩
 go_wp2_with fail
 go_at_call 8
 refine (w12_awake.calls true _ rfl).mono ?_
 rintro e wz ⟨rfl, bz⟩
 go_wp2
 go_ret
 exact ⟨rfl, bSp b1.below bz⟩
set_option maxHeartbeats 6400000 in
set_option maxRecDepth 100000 in
theorem pOnce_far1 (A0 : Option Addr) (c0 : Nat) (l0 : List Rl) (A1 : Option Addr) (c1 : Nat) (l1 : List S42) (w : World) (hr0 : Kd.C k50 w A0 l0.length l0) (hc0 : l0.length ≤ c0) (hr1 : Kd.C k42 w A1 l1.length l1) (hc1 : l1.length ≤ c1) (hL : long12.f 500 l0 = some false) (h6 : 40 < l1.length) :
  Calls Tryz.prog 5 #[.slice A0 l0.length c0, .slice A1 l1.length c1] w fun e w' => e = .returned (.bool true) ∧ Below w.heap.size w w' := by
 have h1 := long12.calls 500 A0 c0 l0 false w hr0 hc0 hL
 have h7 : decide ((40 : Int) < (l1.length : Int)) = true := decide_eq_true (by omega)
 clear hL hr0
 go_enter Tryz.func5, Tryz.ntmps5
 go_wp2_with fail
 go_at_call 7
 refine h1.mono ?_
 rintro e w1 ⟨rfl, b1⟩
 go_wp2_with fail
 go_at_call 8
 refine (w12_awake.calls true _ rfl).mono ?_
 rintro e wz ⟨rfl, bz⟩
 go_wp2
 go_ret
 exact ⟨rfl, bSp b1.below bz⟩
set_option maxHeartbeats 6400000 in
set_option maxRecDepth 100000 in
theorem pOnce_none (A0 : Option Addr) (c0 : Nat) (l0 : List Rl) (A1 : Option Addr) (c1 : Nat) (l1 : List S42) (w : World) (hr0 : Kd.C k50 w A0 l0.length l0) (hc0 : l0.length ≤ c0) (hr1 : Kd.C k42 w A1 l1.length l1) (hc1 : l1.length ≤ c1) (hL : long12.f 500 l0 = some false) (g1 : l1.length ≤ 40) (n e0 : Int) (hn : trie_New.f l0 = some (none, n, e0)) (he : e0 ≠ 0) :
  Calls Tryz.prog 5 #[.slice A0 l0.length c0, .slice A1 l1.length c1] w fun e w' => e = .returned (.bool true) ∧ Below w.heap.size w w' := by
 have h1 := long12.calls 500 A0 c0 l0 false w hr0 hc0 hL
 have HR := Lib.hid hr0
 have HR1 := Lib.hid hr1
 have h71 : decide ((40 : Int) < (l1.length : Int)) = false := decide_eq_false (by omega)
 have heb : (e0 != 0) = true := bne_iff_ne.mpr he
 clear hL hr0 he hr1
 go_enter Tryz.func5, Tryz.ntmps5
 go_wp2_with fail
 go_at_call 7
 refine h1.mono ?_
 rintro e w1 ⟨rfl, b1⟩
 have HB1 := Lib.hid b1.below
 clear b1 h1
 go_wp2_with fail
 go_at_call 12
 refine (trie_New.calls A0 c0 l0 none n e0 w1 (Kd.C_below HR.out HB1.out) hc0 hn).mono ?_
 rintro e w2 ⟨t, rfl, rfl, b2⟩
 have HB2 := Lib.hid (bSp HB1.out b2)
 clear b2
 go_wp2_with fail
 go_at_call 8
 refine (w12_awake.calls true _ rfl).mono ?_
 rintro e wz ⟨rfl, bz⟩
 go_wp2
 go_ret
 exact ⟨rfl, bSp HB2.out bz⟩
end Go.Proofs.YtbpbniemjjhecaaGreat.G
namespace Go.Proofs.YtbpbniemjjhecaaGreat.PChk
set_option linter.unusedVariables false
open Go.RowKit Go.Proofs.YtbpbniemjjhecaaGreat.G Go.Proofs.YtbpbniemjjhecaaGreat.PureC Go.Proofs.YtbpbniemjjhecaaGreatW.PrintWords
def w12_ChunkOnce.f (_ : Nat) (_ : List Rl) (l1 : List S42) : Option Bool := if (l1.all okTkB) = true then some true else none
theorem w12_ChunkOnce.calls (k : Nat) (A0 : Option Addr) (c0 : Nat) (l0 : List Rl) (A1 : Option Addr) (c1 : Nat) (l1 : List S42) (r : Bool) (w : World) (hr0 : Kd.C k50 w A0 l0.length l0) (hc0 : l0.length ≤ c0) (hr1 : Kd.C k42 w A1 l1.length l1) (hc1 : l1.length ≤ c1) (h : w12_ChunkOnce.f k l0 l1 = some r) (hT : r = true) :
  Calls Tryz.prog 5 #[.slice A0 l0.length c0, .slice A1 l1.length c1] w fun e w' => e = .returned (.bool r) ∧ Below w.heap.size w w' := by
 subst hT
 have hk : (∀ x ∈ l1, okTk x) := by
  unfold w12_ChunkOnce.f at h
  split at h
  ·
   rename_i hb
   try simp only [Bool.and_eq_true] at hb
   exact fun x hx => (okTkB_iff x).1 (List.all_eq_true.1 hb x hx)
  ·
   cases h
 rcases long_is12 l0 500 (Nat.le_refl _) with h | ⟨h, hl, hs⟩
 ·
  exact pOnce_long A0 c0 l0 A1 c1 l1 w hr0 hc0 hr1 hc1 h
 ·
  by_cases g1 : l1.length ≤ 40
  ·
   rcases table_two l0 with ht | ht
   ·
    have ht2 := table_check l0 (by omega) hs
    rw [ht] at ht2
    obtain ⟨h1, h2⟩ := new_apart l0 hl hs ht
    obtain ⟨_, h4, h3⟩ := (table_ok l0 (by omega) hs 0 0 ht2).1 rfl
    exact pOnce.calls 1000 A0 c0 l0 A1 c1 l1 true w hr0 hc0 hr1 hc1 h g1 h1 (fun v => once_true v h2 h3 hl hs l1 g1 hk) rfl
   ·
    exact pOnce_none A0 c0 l0 A1 c1 l1 w hr0 hc0 hr1 hc1 h g1 _ _ (new_not l0 hl hs ht) ht
  ·
   exact pOnce_far1 A0 c0 l0 A1 c1 l1 w hr0 hc0 hr1 hc1 h (by omega)
end Go.Proofs.YtbpbniemjjhecaaGreat.PChk
namespace Go.Proofs.YtbpbniemjjhecaaGreat.PureC
set_option linter.unusedVariables false
theorem chunkOnce_true (l0 : List Go.Proofs.YtbpbniemjjhecaaGreat.G.Rl) (l1 : List Go.Proofs.YtbpbniemjjhecaaGreat.PChk.S42) (wf1 : ∀ r ∈ l1, (Lit.int .i64 r.f0).wf = true ∧ (Lit.int .u8 r.f1).wf = true ∧ (Lit.int .i64 r.f2).wf = true) : ∃ k, Go.Proofs.YtbpbniemjjhecaaGreat.PChk.w12_ChunkOnce.f k l0 l1 = some true := ⟨0, if_pos (by rw [fit_wf wf1])⟩
end Go.Proofs.YtbpbniemjjhecaaGreat.PureC
