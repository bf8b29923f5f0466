import Derived.Test.YtbpbniemjjhecaaZPureTrie2
namespace Go.Proofs.Ytbpbniemjjhecaa.G
set_option linter.unusedVariables false
set_option linter.unusedSimpArgs false
open Go.RowKit Go.Maps Go.Proofs.Ytbpbniemjjhecaa.GM Go.Proofs.Ytbpbniemjjhecaa.GT Go.Proofs.Ytbpbniemjjhecaa.PChk Go.Proofs.Ytbpbniemjjhecaa.PureC Go.Proofs.YtbpbniemjjhecaaW.PrintWords Go.Proofs.YtbpbniemjjhecaaW.PrintLast Go.Proofs.YtbpbniemjjhecaaW.PrintMore
theorem drawn_below {w w' : World} (h : Drawn0 w w') : Below w.heap.size w w' := h.below
theorem ptr_not_nil (w : World) (a : Addr) : (binOp .eql 26 (.pointer (some a)) (.pointer none)).run Try.prog w = .ok (.bool false) w := by kernel_rfl
theorem ptr_nil (w : World) : (binOp .eql 26 (.pointer none) (.pointer none)).run Try.prog w = .ok (.bool true) w := by kernel_rfl
set_option maxHeartbeats 6400000 in
set_option maxRecDepth 100000 in
theorem trie_awake.calls (w : World) : Calls Try.prog 10 #[] w fun e w' => e = .returned (.bool true) ∧ Below w.heap.size w w' := by
 have h0 := r9_Base.calls 7000 baseL w (base_is 7000 (Nat.le_refl _))
 go_enter Try.func10, Try.ntmps10
 go_wp2_with fail
 go_at_call 32
 refine h0.mono ?_
 rintro e w1 ⟨u, rfl, hu, b1⟩
 obtain ⟨A, c, rfl, hc, hC⟩ := Kd.R_reads hu
 have hn := trie_New.calls A c baseL _ 0 0 w1 hC hc base_new
 have HC1 := Lib.hid hC
 have HB1 := Lib.hid b1
 clear hu hC b1 h0
 go_wp2_with fail
 go_at_call 11
 refine hn.mono ?_
 rintro e w2 ⟨t, rfl, ht, b2⟩
 have HC2 := Lib.hid (Kd.C_below HC1.out b2)
 have HB2 := Lib.hid (bSp HB1.out b2)
 obtain ⟨hf, m, A2, c2, rfl, hTS⟩ := ht
 have ht : TV w2 (.pointer (some ⟨m + 2, 0, none⟩)) (some (some baseL)) := ⟨hf, m, A2, c2, rfl, hTS⟩
 have HT2 := Lib.hid ht
 have hnn := ptr_not_nil w2 ⟨m + 2, 0, none⟩
 clear hn b2 ht hf hTS
 have hm := trie_Match.calls (.pointer (some ⟨m + 2, 0, none⟩)) (some (some baseL)) ⟨#[1, 3]⟩ 0 1 (by decide) _ HT2.out
 rw [base_a] at hm
 simp only [ans, Option.getD_some, Option.isSome_some, Option.getD_none, Option.isSome_none] at hm
 go_wp2_with fail
 go_at_call 13
 refine hm.mono ?_
 rintro e w3 ⟨rfl, b⟩
 have HT3 := Lib.hid (HT2.out.below b)
 have HC3 := Lib.hid (Kd.C_below HC2.out b)
 have HB3 := Lib.hid (bSp HB2.out b)
 clear hm b
 clear hnn
 have hm := trie_Match.calls (.pointer (some ⟨m + 2, 0, none⟩)) (some (some baseL)) ⟨#[1, 3]⟩ 1 2 (by decide) _ HT3.out
 rw [base_b] at hm
 simp only [ans, Option.getD_some, Option.isSome_some, Option.getD_none, Option.isSome_none] at hm
 go_wp2_with fail
 go_at_call 13
 refine hm.mono ?_
 rintro e w4 ⟨rfl, b⟩
 have HT4 := Lib.hid (HT3.out.below b)
 have HC4 := Lib.hid (Kd.C_below HC3.out b)
 have HB4 := Lib.hid (bSp HB3.out b)
 clear hm b
 have hm := trie_Match.calls (.pointer (some ⟨m + 2, 0, none⟩)) (some (some baseL)) ⟨#[1]⟩ 0 3 (by decide) _ HT4.out
 rw [base_c] at hm
 simp only [ans, Option.getD_some, Option.isSome_some, Option.getD_none, Option.isSome_none] at hm
 go_wp2_with fail
 go_at_call 13
 refine hm.mono ?_
 rintro e w5 ⟨rfl, b⟩
 have HT5 := Lib.hid (HT4.out.below b)
 have HC5 := Lib.hid (Kd.C_below HC4.out b)
 have HB5 := Lib.hid (bSp HB4.out b)
 clear hm b
 have hm := trie_Word.calls (.pointer (some ⟨m + 2, 0, none⟩)) (some (some baseL)) ⟨#[3]⟩ (by decide) _ HT5.out
 rw [base_d] at hm
 simp only [ans, Option.getD_some, Option.isSome_some, Option.getD_none, Option.isSome_none] at hm
 go_wp2_with fail
 go_at_call 16
 refine hm.mono ?_
 rintro e w' ⟨rfl, rfl⟩
 clear hm
 have hm := trie_Word.calls (.pointer (some ⟨m + 2, 0, none⟩)) (some (some baseL)) ⟨#[63]⟩ (by decide) _ HT5.out
 rw [base_f] at hm
 simp only [ans, Option.getD_some, Option.isSome_some, Option.getD_none, Option.isSome_none] at hm
 go_wp2_with fail
 go_at_call 16
 refine hm.mono ?_
 rintro e w' ⟨rfl, rfl⟩
 clear hm
 have hm := trie_Match.calls (.pointer (some ⟨m + 2, 0, none⟩)) (some (some baseL)) ⟨#[1]⟩ 1 1 (by decide) _ HT5.out
 rw [base_g] at hm
 simp only [ans, Option.getD_some, Option.isSome_some, Option.getD_none, Option.isSome_none] at hm
 go_wp2_with fail
 go_at_call 13
 refine hm.mono ?_
 rintro e w6 ⟨rfl, b⟩
 have HT6 := Lib.hid (HT5.out.below b)
 have HC6 := Lib.hid (Kd.C_below HC5.out b)
 have HB6 := Lib.hid (bSp HB5.out b)
 clear hm b
 have hm := trie_Match.calls (.pointer (some ⟨m + 2, 0, none⟩)) (some (some baseL)) ⟨#[1]⟩ 0 4 (by decide) _ HT6.out
 rw [base_h] at hm
 simp only [ans, Option.getD_some, Option.isSome_some, Option.getD_none, Option.isSome_none] at hm
 go_wp2_with fail
 go_at_call 13
 refine hm.mono ?_
 rintro e w7 ⟨rfl, b⟩
 have HT7 := Lib.hid (HT6.out.below b)
 have HC7 := Lib.hid (Kd.C_below HC6.out b)
 have HB7 := Lib.hid (bSp HB6.out b)
 clear hm b
 have hm := fun w hC => w10_is.calls A c baseL 0 true 1 ⟨#[97]⟩ true w hC hc base_is_a
 go_wp2_with fail
 go_at_call 33
 refine (hm _ (by first | exact HC7.out | (repeat (first | exact HC7.out | apply Kd.C_drewN)))).mono ?_
 rintro e w' ⟨rfl, ⟨nd, rfl⟩⟩
 clear hm
 have hm := fun w hC => w10_is.calls A c baseL 1 true 1 ⟨#[98]⟩ true w hC hc base_is_b
 go_wp2_with fail
 go_at_call 33
 refine (hm _ (by first | exact HC7.out | (repeat (first | exact HC7.out | apply Kd.C_drewN)))).mono ?_
 rintro e w' ⟨rfl, ⟨nd, rfl⟩⟩
 clear hm
 have hm := fun w hC => w10_is.calls A c baseL 84 true 7 ⟨#[49]⟩ true w hC hc base_is_c
 go_wp2_with fail
 go_at_call 33
 refine (hm _ (by first | exact HC7.out | (repeat (first | exact HC7.out | apply Kd.C_drewN)))).mono ?_
 rintro e w' ⟨rfl, ⟨nd, rfl⟩⟩
 clear hm
 have hm := fun w hC => w10_is.calls A c baseL 48 true 5 ⟨#[98, 117, 116]⟩ true w hC hc base_is_d
 go_wp2_with fail
 go_at_call 33
 refine (hm _ (by first | exact HC7.out | (repeat (first | exact HC7.out | apply Kd.C_drewN)))).mono ?_
 rintro e w' ⟨rfl, ⟨nd, rfl⟩⟩
 clear hm
 have hm := fun w hT => trie_Sign.calls (.pointer (some ⟨m + 2, 0, none⟩)) (some (some baseL)) ⟨#[99, 97, 112]⟩ (by decide) w hT
 rw [base_cap] at hm
 go_wp2_with fail
 go_at_call 17
 refine (hm _ (HT7.out.below (pbD (Below.refl _ _) _))).mono ?_
 rintro e w' ⟨rfl, rfl⟩
 clear hm
 go_wp2
 go_ret
 exact ⟨rfl, pbD HB7.out _⟩
end Go.Proofs.Ytbpbniemjjhecaa.G
