import Derived.Test.YtbpbniemjjhecaaZGTrieAwake
import Derived.Test.YtbpbniemjjhecaaZPureTrie5
import Derived.Test.YtbpbniemjjhecaaZGClear2
namespace Go.Proofs.Ytbpbniemjjhecaa.G
set_option linter.unusedVariables false
set_option linter.unusedSimpArgs false
open Go.RowKit Go.Maps Go.Proofs.Ytbpbniemjjhecaa.GM Go.Proofs.Ytbpbniemjjhecaa.GT Go.Proofs.Ytbpbniemjjhecaa.PChk Go.Proofs.Ytbpbniemjjhecaa.PureC Go.Proofs.YtbpbniemjjhecaaW.PrintWords Go.Proofs.YtbpbniemjjhecaaW.PrintLast Go.Proofs.YtbpbniemjjhecaaW.PrintMore
set_option maxHeartbeats 6400000 in
set_option maxRecDepth 100000 in
theorem finds_long (A0 : Option Addr) (c0 : Nat) (l0 : List Rl) (s t : ByteArray) (a r k : Int) (b : Bool) (w : World) (hr0 : Kd.C k33 w A0 l0.length l0) (hc0 : l0.length ≤ c0) (hL : w10_long.f 500 l0 = some b) (hb : b = true ∨ s.size > 500 ∨ t.size > 50) :
  Calls Try.prog 5 #[.slice A0 l0.length c0, .string s, .string t, .int .i64 a, .int .i64 r, .int .i64 k] w fun e w' => e = .returned (.bool true) ∧ Below w.heap.size w w' := by
 have h1 := w10_long.calls 500 A0 c0 l0 b w hr0 hc0 hL
 clear hL hr0
 cases b with
 | true =>
  clear hb
  go_enter Try.func5, Try.ntmps5
  go_wp2_with fail
  go_at_call 9
  refine h1.mono ?_
  rintro e w1 ⟨rfl, b1⟩
  go_wp2_with fail
  go_at_call 10
  refine (trie_awake.calls _).mono ?_
  rintro e w2 ⟨rfl, b2⟩
  go_wp2
  go_ret
  exact ⟨rfl, bSp b1.below b2⟩
 | false =>
  replace hb := hb.resolve_left (by decide)
  by_cases h2 : s.size > 500
  ·
   have h2b : decide ((s.size : Int) > 500) = true := decide_eq_true (by omega)
   have h2c : decide ((500 : Int) < (s.size : Int)) = true := decide_eq_true (by omega)
   clear hb h2
   go_enter Try.func5, Try.ntmps5
   go_wp2_with fail
   go_at_call 9
   refine h1.mono ?_
   rintro e w1 ⟨rfl, b1⟩
   go_wp2_with fail
   go_at_call 10
   refine (trie_awake.calls _).mono ?_
   rintro e w2 ⟨rfl, b2⟩
   go_wp2
   go_ret
   exact ⟨rfl, bSp b1.below b2⟩
  ·
   have h3 : t.size > 50 := hb.resolve_left h2
   have h2b : decide ((s.size : Int) > 500) = false := decide_eq_false (by omega)
   have h2c : decide ((500 : Int) < (s.size : Int)) = false := decide_eq_false (by omega)
   have h3b : decide ((t.size : Int) > 50) = true := decide_eq_true (by omega)
   have h3c : decide ((50 : Int) < (t.size : Int)) = true := decide_eq_true (by omega)
   clear hb h2 h3
   go_enter Try.func5, Try.ntmps5
   go_wp2_with fail
   go_at_call 9
   refine h1.mono ?_
   rintro e w1 ⟨rfl, b1⟩
   go_wp2_with fail
   go_at_call 10
   refine (trie_awake.calls _).mono ?_
   rintro e w2 ⟨rfl, b2⟩
   go_wp2
   go_ret
   exact ⟨rfl, bSp b1.below b2⟩
theorem own_len {l : List Rl} (h : l.length ≤ 450) : (([] : List Rl).length + l.length) * 56 ≤ 140737488355328 := by
 simp
 omega
set_option maxHeartbeats 6400000 in
set_option maxRecDepth 100000 in
theorem finds_none (A0 : Option Addr) (c0 : Nat) (l0 : List Rl) (s t : ByteArray) (a r k : Int) (n e0 : Int) (w : World) (hr0 : Kd.C k33 w A0 l0.length l0) (hc0 : l0.length ≤ c0) (hl : l0.length ≤ 450) (hL : w10_long.f 500 l0 = some false) (h2 : ¬ s.size > 500) (h3 : ¬ t.size > 50) (hn : trie_New.f l0 = some (none, n, e0)) (he : e0 ≠ 0) (ht : r9_Table.f 300000 l0 = some (n, e0)) (hS : r8_Same.f 300000 l0 l0 = some true) :
  Calls Try.prog 5 #[.slice A0 l0.length c0, .string s, .string t, .int .i64 a, .int .i64 r, .int .i64 k] w fun e w' => e = .returned (.bool true) ∧ Below w.heap.size w w' := by
 have h1 := w10_long.calls 500 A0 c0 l0 false w hr0 hc0 hL
 have HR := Lib.hid hr0
 have HLL := Lib.hid hl
 have heb : (e0 != 0) = true := bne_iff_ne.mpr he
 have hee : (e0 != e0) = false := by simp
 have hnn : (n != n) = false := by simp
 have h2b : decide ((s.size : Int) > 500) = false := decide_eq_false (by omega)
 have h2c : decide ((500 : Int) < (s.size : Int)) = false := decide_eq_false (by omega)
 have h3b : decide ((t.size : Int) > 50) = false := decide_eq_false (by omega)
 have h3c : decide ((50 : Int) < (t.size : Int)) = false := decide_eq_false (by omega)
 clear hL hr0 he h2 h3 hl
 go_enter Try.func5, Try.ntmps5
 go_wp2_with fail
 go_at_call 9
 refine h1.mono ?_
 rintro e w1 ⟨rfl, b1⟩
 have HB1 := Lib.hid b1.below
 clear b1 h1
 go_wp2_with (first | ((with_reducible refine gate_dst (N := 44) rfl ?_); refine Kd.R_lit k33 _ 33 ?hg (N := 44) ?hd (xs := ([] : List Rl)) (inner := []) (ok := fun _ => True) (okp := fun _ => True) ?hr ?hp (fun _ hk => hk) trivial (Below.refl _ _) (Nat.le_refl _) (by simp) ?_; (case hd => rfl); (case hg => rfl); (case hr => first | (go_simp; done) | (go_simp; rfl)); (case hp => exact (Reps.none _ _)); intro v1 w2 ho1 hb1 hg_ hnew_; clear hg_ hnew_; have HO := Lib.hid ho1; have HB2 := Lib.hid hb1; clear ho1 hb1) | ((with_reducible refine gate_builtin (b := .append) (xs := #[.tmp 44, .tmp 45]) rfl ?_); at_builtin; refine Kd.R_append_rows k33 (w0 := w1) w1.heap.size rfl (.tmp 44) (.tmp 45) 22 33 (.agg #[(.int .i64 0), (.string ⟨#[]⟩), (.string ⟨#[]⟩), (.int .i64 0), (.int .i64 0)]) 56 rfl Try.underlying22 info33 rfl (by decide) (by omega) v1 ([] : List Rl) l0 _ _ _ (fun _ => True) (fun _ => False) rfl rfl ?aO ?aR (fun _ _ h => h) (fun _ h => h.elim) ?aF ?aB ?aS ?aL ?_; (case aR => exact Kd.C_below HR.out (bSp HB1.out HB2.out)); (case aB => exact HB2.out); (case aF => exact (fun _ _ => trivial)); (case aO => exact HO.out); (case aS => exact HB2.out.size); (case aL => exact own_len HLL.out); intro v2 w3 ho hb hg hat; have HB3 := Lib.hid (bSp HB1.out hb); obtain ⟨Ao, co, rfl, hco, hCo⟩ := Kd.R_reads (show Kd.R k33 33 w3 w1.heap.size (fun _ => True) v2 l0 from ho); have HO3 := Lib.hid (show Kd.R k33 33 w3 w1.heap.size (fun _ => True) (.slice Ao l0.length co) l0 from ho); have HCo := Lib.hid hCo; clear ho hb hg hat hCo))
 go_at_call 11
 refine (trie_New.calls Ao co l0 none n e0 w3 HCo.out hco hn).mono ?_
 rintro e w4 ⟨tv, rfl, rfl, b4⟩
 have HB4 := Lib.hid (bSp HB3.out b4)
 have HC4 := Lib.hid (Kd.C_below HCo.out b4)
 clear b4
 go_wp2_with fail
 go_at_call 18
 refine (r9_Table.calls 300000 A0 c0 l0 n e0 w4 (Kd.C_below HR.out HB4.out) hc0 ht).mono ?_
 rintro e w5 ⟨rfl, b5⟩
 have HB5 := Lib.hid (bSp HB4.out b5)
 have HC5 := Lib.hid (Kd.C_below HC4.out b5)
 have hnl := ptr_nil
 clear b5
 go_wp2_with fail
 go_at_call 19
 refine (r8_Same.calls 300000 Ao co l0 A0 c0 l0 true w5 HC5.out hco (Kd.C_below HR.out HB5.out) hc0 hS).mono ?_
 rintro e w6 ⟨rfl, b6⟩
 have HB6 := Lib.hid (bSp HB5.out b6.below)
 clear b6
 go_wp2_with fail
 go_at_call 10
 refine (trie_awake.calls _).mono ?_
 rintro e w7 ⟨rfl, b7⟩
 go_wp2
 go_ret
 exact ⟨rfl, bSp HB6.out b7⟩
set_option maxHeartbeats 6400000 in
set_option maxRecDepth 100000 in
theorem finds_some (A0 : Option Addr) (c0 : Nat) (l0 : List Rl) (s t : ByteArray) (a r k : Int) (hside : sideOk (k, t)) (w : World) (hr0 : Kd.C k33 w A0 l0.length l0) (hc0 : l0.length ≤ c0) (hl : l0.length ≤ 450) (hL : w10_long.f 500 l0 = some false) (h2 : ¬ s.size > 500) (h3 : ¬ t.size > 50) (hn : trie_New.f l0 = some (some (some l0), 0, 0)) (hA : Apart l0) (ht : r9_Table.f 300000 l0 = some (0, 0)) (hS : r8_Same.f 300000 l0 l0 = some true) :
  Calls Try.prog 5 #[.slice A0 l0.length c0, .string s, .string t, .int .i64 a, .int .i64 r, .int .i64 k] w fun e w' => e = .returned (.bool true) ∧ Below w.heap.size w w' := by
 have h1 := w10_long.calls 500 A0 c0 l0 false w hr0 hc0 hL
 have HR := Lib.hid hr0
 have HLL := Lib.hid hl
 have HSD := Lib.hid hside
 have HSS := Lib.hid (show s.size ≤ 500 ∧ t.size ≤ 50 from by omega)
 have h2b : decide ((s.size : Int) > 500) = false := decide_eq_false (by omega)
 have h2c : decide ((500 : Int) < (s.size : Int)) = false := decide_eq_false (by omega)
 have h3b : decide ((t.size : Int) > 50) = false := decide_eq_false (by omega)
 have h3c : decide ((50 : Int) < (t.size : Int)) = false := decide_eq_false (by omega)
 clear hL hr0 h2 h3 hl hside
 go_enter Try.func5, Try.ntmps5
 go_wp2_with fail
 go_at_call 9
 refine h1.mono ?_
 rintro e w1 ⟨rfl, b1⟩
 have HB1 := Lib.hid b1.below
 clear b1 h1
 go_wp2_with (first | ((with_reducible refine gate_dst (N := 44) rfl ?_); refine Kd.R_lit k33 _ 33 ?hg (N := 44) ?hd (xs := ([] : List Rl)) (inner := []) (ok := fun _ => True) (okp := fun _ => True) ?hr ?hp (fun _ hk => hk) trivial (Below.refl _ _) (Nat.le_refl _) (by simp) ?_; (case hd => rfl); (case hg => rfl); (case hr => first | (go_simp; done) | (go_simp; rfl)); (case hp => exact (Reps.none _ _)); intro v1 w2 ho1 hb1 hg_ hnew_; clear hg_ hnew_; have HO := Lib.hid ho1; have HB2 := Lib.hid hb1; clear ho1 hb1) | ((with_reducible refine gate_builtin (b := .append) (xs := #[.tmp 44, .tmp 45]) rfl ?_); at_builtin; refine Kd.R_append_rows k33 (w0 := w1) w1.heap.size rfl (.tmp 44) (.tmp 45) 22 33 (.agg #[(.int .i64 0), (.string ⟨#[]⟩), (.string ⟨#[]⟩), (.int .i64 0), (.int .i64 0)]) 56 rfl Try.underlying22 info33 rfl (by decide) (by omega) v1 ([] : List Rl) l0 _ _ _ (fun _ => True) (fun _ => False) rfl rfl ?aO ?aR (fun _ _ h => h) (fun _ h => h.elim) ?aF ?aB ?aS ?aL ?_; (case aR => exact Kd.C_below HR.out (bSp HB1.out HB2.out)); (case aB => exact HB2.out); (case aF => exact (fun _ _ => trivial)); (case aO => exact HO.out); (case aS => exact HB2.out.size); (case aL => exact own_len HLL.out); intro v2 w3 ho hb hg hat; have HB3 := Lib.hid (bSp HB1.out hb); obtain ⟨Ao, co, rfl, hco, hCo⟩ := Kd.R_reads (show Kd.R k33 33 w3 w1.heap.size (fun _ => True) v2 l0 from ho); have HO3 := Lib.hid (show Kd.R k33 33 w3 w1.heap.size (fun _ => True) (.slice Ao l0.length co) l0 from ho); have HCo := Lib.hid hCo; clear ho hb hg hat hCo))
 go_at_call 11
 refine (trie_New.fresh Ao co l0 w3 HCo.out hco hn).mono ?_
 rintro e w4 ⟨tv, rfl, ht4, b4, hfr⟩
 have HFR := Lib.hid hfr
 have HB34 := Lib.hid b4
 have HB4 := Lib.hid (bSp HB3.out b4)
 have HO4 := Lib.hid (Kd.R_below HO3.out b4)
 have HC4 := Lib.hid (Kd.C_below HCo.out b4)
 obtain ⟨hf, m, A3, c3, rfl, hTS⟩ := ht4
 have hnl := fun w => ptr_not_nil w ⟨m + 2, 0, none⟩
 clear b4 hfr hf hTS
 go_wp2_with fail
 go_at_call 18
 refine (r9_Table.calls 300000 A0 c0 l0 0 0 w4 (Kd.C_below HR.out HB4.out) hc0 ht).mono ?_
 rintro e w5 ⟨rfl, b5⟩
 have HB45 := Lib.hid b5
 have HB5 := Lib.hid (bSp HB4.out b5)
 have HO5 := Lib.hid (Kd.R_below HO4.out b5)
 have HC5 := Lib.hid (Kd.C_below HC4.out b5)
 clear b5
 go_wp2_with fail
 go_at_call 19
 refine (r8_Same.calls 300000 Ao co l0 A0 c0 l0 true w5 HC5.out hco (Kd.C_below HR.out HB5.out) hc0 hS).mono ?_
 rintro e w6 ⟨rfl, b6⟩
 have HB56 := Lib.hid b6.below
 have HB6 := Lib.hid (bSp HB5.out b6.below)
 have HO6 := Lib.hid (Kd.R_below HO5.out b6.below)
 clear b6
 have hz : ∀ w, (zeroValue 33).run Try.prog w = .ok (.agg #[.int .i64 0, .string ⟨#[]⟩, .string ⟨#[]⟩, .int .i64 0, .int .i64 0]) w := fun w => by kernel_rfl
 have HZ := Lib.hid hz
 have HZ1 := Lib.hid (show ∀ u ∈ (Value.agg #[.int .i64 0, .string ⟨#[]⟩, .string ⟨#[]⟩, .int .i64 0, .int .i64 0]).cells.toList, u.oneCell' = true from by decide)
 clear hz
 obtain ⟨inner, hin, _⟩ := HO6.out.2
 have HIN := Lib.hid hin
 clear hin
 go_wp2_with ((with_reducible refine gate_builtin (b := .clear) (xs := #[.tmp 82]) rfl ?_); refine wpList_clear rfl (.tmp 82) 22 33 rfl Try.underlying22 _ HZ.out HZ1.out _ l0.length w1.heap.size inner rfl HIN.out ?_; intro w7 hg7 hn7; have HG7 := Lib.hid (show w6.grownBy w7 (Value.slice Ao l0.length co).ownBlock from hg7); clear hg7 hn7)
 have HN3 := Lib.hid (show ∀ g, (Value.slice Ao l0.length co).ownBlock = some g → g < w3.heap.size from fun g hg => by obtain ⟨inner3, hin3, _⟩ := HO3.out.2; exact own_lt hin3 g hg)
 have b7 : Below w.heap.size w w7 := HB6.out.grown HG7.out HB6.out.size (fun g hg => Nat.le_trans HB1.out.size (own_base HIN.out g hg))
 have t7 : TV w7 (.pointer (some ⟨m + 2, 0, none⟩)) (some (some l0)) := HFR.out w7 (fun g h1 h2 => by
  have h45 := HB45.out.block g h2
  have h56 := HB56.out.block g (Nat.lt_of_lt_of_le h2 HB45.out.size)
  have h67 := HG7.out.block g (Nat.lt_of_lt_of_le (Nat.lt_of_lt_of_le h2 HB45.out.size) HB56.out.size) (fun e => by have := HN3.out g e.symm; omega)
  rw [h67, h56, h45])
 have HB7 := Lib.hid b7
 have HT7 := Lib.hid t7
 clear b7 t7
 -- each answer twice
 have hl3 : l0.length ≤ 100000 := by have := HLL.out; omega
 obtain ⟨i1, q1, hi1⟩ : ∃ i q, (matchO (some (some l0)) s a r).getD 0 = i ∧ (matchO (some (some l0)) s a r).isSome = q := ⟨_, _, rfl, rfl⟩
 obtain ⟨i2, q2, hi2⟩ : ∃ i q, (wordO (some (some l0)) s).getD 0 = i ∧ (wordO (some (some l0)) s).isSome = q := ⟨_, _, rfl, rfl⟩
 obtain ⟨i3, q3, hi3⟩ : ∃ i q, (findO (some (some l0)) k t).getD 0 = i ∧ (findO (some (some l0)) k t).isSome = q := ⟨_, _, rfl, rfl⟩
 have r1 := ref_match l0 hl3 hA s a r 1000 (by have := HLL.out; omega)
 have r2 := ref_word l0 hl3 hA s 1000 (by have := HLL.out; omega)
 have r3 := ref_find l0 hl3 hA k t 1000 (by have := HLL.out; omega)
 have r4 := ref_sign l0 hl3 hA t 1000 (by have := HLL.out; omega)
 rw [hi1.1, hi1.2] at r1
 rw [hi2.1, hi2.2] at r2
 rw [hi3.1, hi3.2] at r3
 have m1 := fun w hT => trie_Match.calls (.pointer (some ⟨m + 2, 0, none⟩)) (some (some l0)) s a r (by have := HSS.out; omega) w hT
 have m2 := fun w hT => trie_Word.calls (.pointer (some ⟨m + 2, 0, none⟩)) (some (some l0)) s (by have := HSS.out; omega) w hT
 have m3 := fun w hT => trie_Find.calls (.pointer (some ⟨m + 2, 0, none⟩)) (some (some l0)) k t HSD.out w hT
 have m4 := fun w hT => trie_Sign.calls (.pointer (some ⟨m + 2, 0, none⟩)) (some (some l0)) t (by have := HSS.out; omega) w hT
 have m5 := fun w hT => trie_Rules.calls (.pointer (some ⟨m + 2, 0, none⟩)) (some (some l0)) w hT
 simp only [ans, hi1.1, hi1.2] at m1
 simp only [ans, hi2.1, hi2.2] at m2
 simp only [ans, hi3.1, hi3.2] at m3
 obtain ⟨sg, hsg⟩ : ∃ sg, signO (some (some l0)) t = sg := ⟨_, rfl⟩
 rw [hsg] at r4 m4
 have n1 : (i1 != i1) = false := by simp
 have n2 : (i2 != i2) = false := by simp
 have n3 : (i3 != i3) = false := by simp
 clear hi1 hi2 hi3 hsg hl3
 go_wp2_with fail
 go_at_call 13
 refine (m1 _ HT7.out).mono ?_
 rintro e w8 ⟨rfl, b8⟩
 have HB8 := Lib.hid (bSp HB7.out b8)
 have HT8 := Lib.hid (HT7.out.below b8)
 clear b8
 go_wp2_with fail
 go_at_call 20
 refine (r10_Match.calls 1000 A0 c0 l0 s a r i1 q1 w8 (Kd.C_below HR.out HB8.out) hc0 r1).mono ?_
 rintro e w9 ⟨rfl, b9⟩
 have HB9 := Lib.hid (bSp HB8.out b9)
 have HT9 := Lib.hid (HT8.out.below b9)
 clear b9
 go_wp2_with fail
 go_at_call 16
 refine (m2 _ HT9.out).mono ?_
 rintro e w' ⟨rfl, rfl⟩
 go_wp2_with fail
 go_at_call 21
 refine (r10_Word.calls 1000 A0 c0 l0 s i2 q2 _ (Kd.C_below HR.out HB9.out) hc0 r2).mono ?_
 rintro e w10 ⟨rfl, b10⟩
 have HB10 := Lib.hid (bSp HB9.out b10.below)
 have HT10 := Lib.hid (HT9.out.below b10.below)
 clear b10
 go_wp2_with fail
 go_at_call 15
 refine (m3 _ HT10.out).mono ?_
 rintro e w' ⟨rfl, rfl⟩
 go_wp2_with fail
 go_at_call 22
 refine (r10_Find.calls 1000 A0 c0 l0 k t i3 q3 _ (Kd.C_below HR.out HB10.out) hc0 r3).mono ?_
 rintro e w11 ⟨rfl, b11⟩
 have HB11 := Lib.hid (bSp HB10.out b11.below)
 have HT11 := Lib.hid (HT10.out.below b11.below)
 clear b11
 go_wp2_with fail
 go_at_call 17
 refine (m4 _ HT11.out).mono ?_
 rintro e w' ⟨rfl, rfl⟩
 go_wp2_with fail
 go_at_call 23
 refine (r10_Sign.calls 1000 A0 c0 l0 t sg _ (Kd.C_below HR.out HB11.out) hc0 r4).mono ?_
 rintro e w12 ⟨rfl, b12⟩
 have HB12 := Lib.hid (bSp HB11.out b12.below)
 have HT12 := Lib.hid (HT11.out.below b12.below)
 clear b12 m1 m2 m3 m4
 go_wp2_with fail
 go_at_call 24
 refine (m5 _ HT12.out).mono ?_
 rintro e w13 ⟨u, rfl, hu, b13⟩
 obtain ⟨Au, cu, rfl, _, _⟩ := Kd.R_reads hu
 obtain ⟨inner2, hin2, _⟩ := (show Kd.R k33 33 w13 w12.heap.size (fun _ => True) (.slice Au l0.length cu) l0 from hu).2
 have HB13 := Lib.hid (bSp HB12.out b13)
 have HBU := Lib.hid b13
 have HIN2 := Lib.hid hin2
 clear hu hin2 b13
 go_wp2_with ((with_reducible refine gate_builtin (b := .clear) (xs := #[.tmp 163]) rfl ?_); refine wpList_clear rfl (.tmp 163) 22 33 rfl Try.underlying22 _ HZ.out HZ1.out _ l0.length w12.heap.size inner2 rfl HIN2.out ?_; intro w14 hg14 hn14; have HG14 := Lib.hid (show w13.grownBy w14 (Value.slice Au l0.length cu).ownBlock from hg14); clear hg14 hn14)
 have b14 : Below w12.heap.size w12 w14 := HBU.out.grown HG14.out HBU.out.size (fun g hg => own_base HIN2.out g hg)
 have HT14 := Lib.hid (HT12.out.below b14)
 have HB14 := Lib.hid (bSp HB12.out b14)
 clear b14
 go_wp2_with fail
 go_at_call 24
 refine (m5 _ HT14.out).mono ?_
 rintro e w15 ⟨u2, rfl, hu2, b15⟩
 obtain ⟨Av, cv, rfl, hcv, hCv⟩ := Kd.R_reads (show Kd.R k33 33 w15 w14.heap.size (fun _ => True) u2 l0 from hu2)
 have HB15 := Lib.hid (bSp HB14.out b15)
 have HCv := Lib.hid hCv
 clear hu2 hCv b15
 go_wp2_with fail
 go_at_call 19
 refine (r8_Same.calls 300000 Av cv l0 A0 c0 l0 true w15 HCv.out hcv (Kd.C_below HR.out HB15.out) hc0 hS).mono ?_
 rintro e w16 ⟨rfl, b16⟩
 have HB16 := Lib.hid (bSp HB15.out b16.below)
 clear b16
 go_wp2_with fail
 go_at_call 10
 refine (trie_awake.calls _).mono ?_
 rintro e w17 ⟨rfl, b17⟩
 go_wp2
 go_ret
 exact ⟨rfl, bSp HB16.out b17⟩
end Go.Proofs.Ytbpbniemjjhecaa.G
namespace Go.Proofs.Ytbpbniemjjhecaa.PChk
open Go.RowKit Go.Proofs.Ytbpbniemjjhecaa.G Go.Proofs.Ytbpbniemjjhecaa.PureC Go.Proofs.YtbpbniemjjhecaaW.PrintWords
def w10_TrieFinds.f (_ : Nat) (_ : List Rl) (_ _ : ByteArray) (_ _ k : Int) : Option Bool := if (Lit.int .i64 k).wf = true then some true else none
theorem w10_TrieFinds.calls (n : Nat) (A0 : Option Addr) (c0 : Nat) (l0 : List Rl) (s t : ByteArray) (a r k : Int) (b : Bool) (w : World) (hr0 : Kd.C k33 w A0 l0.length l0) (hc0 : l0.length ≤ c0) (h : w10_TrieFinds.f n l0 s t a r k = some b) (hT : b = true) :
  Calls Try.prog 5 #[.slice A0 l0.length c0, .string s, .string t, .int .i64 a, .int .i64 r, .int .i64 k] w fun e w' => e = .returned (.bool b) ∧ Below w.heap.size w w' := by
 subst hT
 unfold w10_TrieFinds.f at h
 by_cases hk : (Lit.int .i64 k).wf = true
 ·
  rcases long_is l0 500 (Nat.le_refl _) with h | ⟨h, hl, hs⟩
  ·
   exact finds_long A0 c0 l0 s t a r k true w hr0 hc0 h (Or.inl rfl)
  ·
   by_cases h2 : s.size > 500
   ·
    exact finds_long A0 c0 l0 s t a r k false w hr0 hc0 h (Or.inr (Or.inl h2))
   ·
    by_cases h3 : t.size > 50
    ·
     exact finds_long A0 c0 l0 s t a r k false w hr0 hc0 h (Or.inr (Or.inr h3))
    ·
     have hM : l0.length * (l0.length + 3) ≤ 450 * 453 := Nat.mul_le_mul hl (by omega)
     have hS := same_is l0 (by omega) 300000 (by omega)
     have ht := table_ref l0 (by omega) hs 300000 (by omega)
     rcases table_two l0 with h4 | h4
     ·
      obtain ⟨h5, h6⟩ := new_apart l0 hl hs h4
      rw [h4] at ht
      exact finds_some A0 c0 l0 s t a r k ⟨hk, by show t.size ≤ maxLen; unfold maxLen; omega⟩ w hr0 hc0 hl h h2 h3 h5 h6 ht hS
     ·
      exact finds_none A0 c0 l0 s t a r k _ _ w hr0 hc0 hl h h2 h3 (new_not l0 hl hs h4) h4 ht hS
 ·
  rw [if_neg hk] at h
  cases h
end Go.Proofs.Ytbpbniemjjhecaa.PChk
namespace Go.Proofs.Ytbpbniemjjhecaa.PureC
theorem trieFinds_true (l0 : List Go.Proofs.Ytbpbniemjjhecaa.G.Rl) (s t : ByteArray) (a r k : Int) (_ : s.size ≤ 140737488351232) (_ : t.size ≤ 140737488351232) (_ : (Go.Lit.int .i64 a).wf = true) (_ : (Go.Lit.int .i64 r).wf = true) (h : (Go.Lit.int .i64 k).wf = true) : ∃ n, Go.Proofs.Ytbpbniemjjhecaa.PChk.w10_TrieFinds.f n l0 s t a r k = some true := ⟨0, if_pos h⟩
end Go.Proofs.Ytbpbniemjjhecaa.PureC
