import Derived.Test.YtbpbniemjjhecaaZGTrieAwake
import Derived.Test.YtbpbniemjjhecaaZPureTrie4
namespace Go.Proofs.Ytbpbniemjjhecaa.G
set_option linter.unusedVariables false
set_option linter.unusedSimpArgs false
open Go.RowKit Go.Maps Go.Proofs.Ytbpbniemjjhecaa.GM Go.Proofs.Ytbpbniemjjhecaa.GT Go.Proofs.Ytbpbniemjjhecaa.PChk Go.Proofs.Ytbpbniemjjhecaa.PureC Go.Proofs.YtbpbniemjjhecaaW.PrintWords Go.Proofs.YtbpbniemjjhecaaW.PrintLast Go.Proofs.YtbpbniemjjhecaaW.PrintMore
theorem byte_row {w : World} {A : Option Addr} {n : Nat} {xs : List Int} (h : Kd.C (Kd.int .u8) w A n xs) (i : Nat) (hi : i < n) : ∃ ad, A = some ad ∧ w.cell? (ad.add i) = some (.int .u8 (xs.getD i 0)) := by
  obtain ⟨ad, e, hc⟩ := h.2.2 (by omega)
  have hl : i < xs.length := by have := h.1; omega
  obtain ⟨c, hs, hk, hcell⟩ := hc i _ (List.getElem?_eq_getElem hl)
  have hk2 : c = [Value.int .u8 xs[i]] := hk
  have h3 := hcell 0 (.int .u8 xs[i]) (by rw [hk2]; rfl)
  refine ⟨ad, e, ?_⟩
  rw [show i * (Kd.int .u8).sz + 0 = i from by rw [show (Kd.int .u8).sz = 1 from rfl]; omega] at h3
  rw [h3, List.getD_eq_getElem?_getD, List.getElem?_eq_getElem hl]
  rfl
set_option maxHeartbeats 6400000 in
set_option maxRecDepth 100000 in
theorem back_long (A0 : Option Addr) (c0 : Nat) (l0 : List Rl) (a1 : Int) (A2 : Option Addr) (c2 : Nat) (l2 : List Int) (b : Bool) (w : World) (hr0 : Kd.C k33 w A0 l0.length l0) (hc0 : l0.length ≤ c0) (hL : w10_long.f 500 l0 = some b) (hb : b = true ∨ l2.length > 100) :
    Calls Try.prog 3 #[.slice A0 l0.length c0, .int .i64 a1, .slice A2 l2.length c2] w fun e w' => e = .returned (.bool true) ∧ Below w.heap.size w w' := by
  have h1 := w10_long.calls 500 A0 c0 l0 b w hr0 hc0 hL
  clear hL hr0
  cases b with
  | true =>
    clear hb
    go_enter Try.func3, Try.ntmps3
    go_wp2_with fail
    go_at_call 9
    refine h1.mono ?_
    rintro e w1 ⟨rfl, b1⟩
    go_wp2_with fail
    go_at_call 10
    refine (trie_awake.calls _).mono ?_
    rintro e w2 ⟨rfl, b2⟩
    go_wp2
    go_ret
    exact ⟨rfl, bSp b1.below b2⟩
  | false =>
    have h2 : l2.length > 100 := hb.resolve_left (by decide)
    have h2b : decide ((l2.length : Int) > 100) = true := decide_eq_true (by omega)
    have h2c : decide ((100 : Int) < (l2.length : Int)) = true := decide_eq_true (by omega)
    clear hb h2
    go_enter Try.func3, Try.ntmps3
    go_wp2_with fail
    go_at_call 9
    refine h1.mono ?_
    rintro e w1 ⟨rfl, b1⟩
    go_wp2_with fail
    go_at_call 10
    refine (trie_awake.calls _).mono ?_
    rintro e w2 ⟨rfl, b2⟩
    go_wp2
    go_ret
    exact ⟨rfl, bSp b1.below b2⟩
set_option maxHeartbeats 6400000 in
set_option maxRecDepth 100000 in
theorem back_none (A0 : Option Addr) (c0 : Nat) (l0 : List Rl) (a1 : Int) (A2 : Option Addr) (c2 : Nat) (l2 : List Int) (n e0 : Int) (w : World) (hr0 : Kd.C k33 w A0 l0.length l0) (hc0 : l0.length ≤ c0) (hL : w10_long.f 500 l0 = some false) (h2 : ¬ l2.length > 100) (hn : trie_New.f l0 = some (none, n, e0)) (he : e0 ≠ 0) :
    Calls Try.prog 3 #[.slice A0 l0.length c0, .int .i64 a1, .slice A2 l2.length c2] w fun e w' => e = .returned (.bool true) ∧ Below w.heap.size w w' := by
  have h1 := w10_long.calls 500 A0 c0 l0 false w hr0 hc0 hL
  have HR := Lib.hid hr0
  have heb : (e0 != 0) = true := bne_iff_ne.mpr he
  have h2b : decide ((l2.length : Int) > 100) = false := decide_eq_false (by omega)
  have h2c : decide ((100 : Int) < (l2.length : Int)) = false := decide_eq_false (by omega)
  clear hL hr0 he h2
  go_enter Try.func3, Try.ntmps3
  go_wp2_with fail
  go_at_call 9
  refine h1.mono ?_
  rintro e w1 ⟨rfl, b1⟩
  have HB1 := Lib.hid b1.below
  clear b1 h1
  go_wp2_with fail
  go_at_call 11
  refine (trie_New.calls A0 c0 l0 none n e0 w1 (Kd.C_below HR.out HB1.out) hc0 hn).mono ?_
  rintro e w2 ⟨t, rfl, rfl, b2⟩
  have HB2 := Lib.hid (bSp HB1.out b2)
  have hnl := ptr_nil w2
  clear b2
  go_wp2_with fail
  go_at_call 10
  refine (trie_awake.calls _).mono ?_
  rintro e w4 ⟨rfl, b4⟩
  go_wp2
  go_ret
  exact ⟨rfl, bSp HB2.out b4⟩
set_option maxHeartbeats 6400000 in
set_option maxRecDepth 100000 in
theorem back_some (A0 : Option Addr) (c0 : Nat) (l0 : List Rl) (a1 : Int) (A2 : Option Addr) (c2 : Nat) (l2 : List Int) (w : World) (hr0 : Kd.C k33 w A0 l0.length l0) (hc0 : l0.length ≤ c0) (hr2 : Kd.C (Kd.int .u8) w A2 l2.length l2) (hc2 : l2.length ≤ c2) (hw2 : ∀ b ∈ l2, 0 ≤ b ∧ b ≤ 255) (hl : l0.length ≤ 450) (hs : ∀ x ∈ l0, Short x) (hL : w10_long.f 500 l0 = some false) (h2 : ¬ l2.length > 100) (hn : trie_New.f l0 = some (some (some l0), 0, 0)) (hA : Apart l0) :
    Calls Try.prog 3 #[.slice A0 l0.length c0, .int .i64 a1, .slice A2 l2.length c2] w fun e w' => e = .returned (.bool true) ∧ Below w.heap.size w w' := by
  have h1 := w10_long.calls 500 A0 c0 l0 false w hr0 hc0 hL
  have HR := Lib.hid hr0
  have HR2 := Lib.hid hr2
  have HW2 := Lib.hid hw2
  have HS := Lib.hid hs
  have h2b : decide ((l2.length : Int) > 100) = false := decide_eq_false (by omega)
  have h2c : decide ((100 : Int) < (l2.length : Int)) = false := decide_eq_false (by omega)
  have HN2 := Lib.hid (show l2.length ≤ 100 from by omega)
  clear hL hr0 hs hr2 hw2 h2
  go_enter Try.func3, Try.ntmps3
  go_wp2_with fail
  go_at_call 9
  refine h1.mono ?_
  rintro e w1 ⟨rfl, b1⟩
  have HB1 := Lib.hid b1.below
  clear b1 h1
  go_wp2_with fail
  go_at_call 11
  refine (trie_New.calls A0 c0 l0 (some (some l0)) 0 0 w1 (Kd.C_below HR.out HB1.out) hc0 hn).mono ?_
  rintro e wn ⟨t, rfl, ht2, b2⟩
  have HBn := Lib.hid (bSp HB1.out b2)
  clear b2
  obtain ⟨hf, m, A3, c3, rfl, hTS⟩ := ht2
  have ht2 : TV wn (.pointer (some ⟨m + 2, 0, none⟩)) (some (some l0)) := ⟨hf, m, A3, c3, rfl, hTS⟩
  have HTn := Lib.hid ht2
  have hnl := ptr_not_nil wn ⟨m + 2, 0, none⟩
  clear ht2 hf hTS
  go_wp2
  have hrow := row_of a1
  generalize wrap64 (1 + (bits .and .i64 a1 255).tmod 3) = R at hrow ⊢
  clear hnl
  have HB0 := Lib.hid (Below.refl wn.heap.size wn)
  have HO0 := Lib.hid (show wn.ownsRow wn.heap.size 3 1 (.slice none 0 0) (idxs R (l0.take 0)).length (nums .i64 (idxs R (l0.take 0))) from own_nil _ _ _ _)
  have hinfo : (Try.prog.info? 3).map (fun i => (i.zero, i.size, i.bytes)) = some (some (.int .i64 0), 1, 8) := by kernel_rfl
  have HI := Lib.hid hinfo
  clear hinfo
  go_loopw [10, 12] (fun v i wr => ∃ p : Nat, i = .int .i64 (p : Int) ∧ p ≤ l0.length ∧ Hid (wr.ownsRow wn.heap.size 3 1 v (idxs R (l0.take p)).length (nums .i64 (idxs R (l0.take p)))) ∧ Hid (Below wn.heap.size wn wr)) (fun _ i _ => l0.length - (intOf i).toNat)
  case atStart => exact ⟨0, rfl, Nat.zero_le _, HO0, HB0⟩
  case round =>
    clear HO0 HB0
    obtain ⟨p, rfl, hp, HO, HB⟩ := hrel
    by_cases hlt : p < l0.length
    · obtain ⟨x, hx⟩ : ∃ x, l0[p]? = some x := ⟨l0[p], List.getElem?_eq_getElem hlt⟩
      have hrd : rd_T33 l0 (p : Int) = x := by simp [rd_T33, hx]
      have hTk : l0.take (p + 1) = l0.take p ++ [x] := by rw [List.take_add_one, hx]; rfl
      have htl : (l0.take p).length = p := by rw [List.length_take]; omega
      obtain ⟨ad, e, g0, g1, g2, g3, g4⟩ := at_T33 HR.out (p : Int) (by omega) (by omega)
      rw [hrd] at g0 g1 g2 g3 g4
      simp only [Int.toNat_natCast] at g0 g1 g2 g3 g4
      cases e
      have hbb := bSp HBn.out HB.out
      replace g0 := (hbb.cell (World.block_lt_of_cell? w _ g0)).trans g0
      replace g1 := (hbb.cell (World.block_lt_of_cell? w _ g1)).trans g1
      replace g2 := (hbb.cell (World.block_lt_of_cell? w _ g2)).trans g2
      replace g3 := (hbb.cell (World.block_lt_of_cell? w _ g3)).trans g3
      replace g4 := (hbb.cell (World.block_lt_of_cell? w _ g4)).trans g4
      have hin := check_In.calls 8 x.f0 x.f1 x.f2 x.f3 x.f4 R (inB x.f0 R) wr (in_check 8 (by omega) _ _ _ _ _ _)
      have hp1 : (p : Int) ≤ (c0 : Int) := by omega
      have hp2 : (p : Int) < (l0.length : Int) := by omega
      have hp3 : p ≤ c0 := by omega
      have hp4 : p + 1 ≤ l0.length := by omega
      have HL1 := Lib.hid (Nat.le_trans (idxs_len R (l0.take p)) (Nat.le_of_eq htl))
      cases hib : inB x.f0 R with
      | false =>
        rw [hib] at hin
        have hnx : idxs R (l0.take (p + 1)) = idxs R (l0.take p) := by rw [hTk, idxs_snoc, if_neg (by rw [hib]; decide)]
        have HNX := Lib.hid hnx
        clear hbb hrd hx hTk htl hnx
        go_wp2_with fail
        go_at_call 12
        refine hin.mono ?_
        rintro ex W4 ⟨rfl, b4⟩
        have HO4 := Lib.hid (pw_own_below HO.out b4)
        have HB4 := Lib.hid (bSp HB.out b4)
        clear hin b4 g0 g1 g2 g3 g4
        go_wp2
        go_roundw
        case rel => first | exact ⟨p + 1, by go_num, hp4, by rw [HNX.out]; exact HO4, HB4⟩ | ((repeat apply Exists.intro); exact ⟨⟨p + 1, by go_num, hp4, by rw [HNX.out]; exact HO4, HB4⟩, rfl⟩)
        case measure => simp [intOf]; omega
      | true =>
        rw [hib] at hin
        have hnx : idxs R (l0.take (p + 1)) = idxs R (l0.take p) ++ [(p : Int)] := by rw [hTk, idxs_snoc, if_pos hib, htl]
        have HNX := Lib.hid hnx
        clear hbb hrd hx hTk htl hnx
        go_wp2_with fail
        go_at_call 12
        refine hin.mono ?_
        rintro ex W4 ⟨rfl, b4⟩
        have HO4 := Lib.hid (pw_own_below HO.out b4)
        have HB4 := Lib.hid (bSp HB.out b4)
        clear hin b4 g0 g1 g2 g3 g4
        go_wp2_with ((with_reducible refine gate_builtin (b := .append) (xs := #[.tmp 67, .tmp 69]) rfl ?_); at_builtin; refine print_append_num (w0 := wn) wn.heap.size rfl (.tmp 67) (.tmp 69) 30 3 .i64 8 rfl Try.underlying30 HI.out (by decide) _ (idxs R (l0.take p)) (p : Int) rfl rfl HO4.out HB4.out HB4.out.size (by have := HL1.out; omega) ?_; intro v1 W5 hown hB5 hg5 hat5; rw [← HNX.out] at hown; have HO5 := Lib.hid hown; have HB5 := Lib.hid hB5; clear hown hB5 hg5 hat5; obtain ⟨A5, c5, e5⟩ := own_slice HO5.out; subst e5)
        go_roundw
        case rel => first | exact ⟨p + 1, by go_num, hp4, HO5, HB5⟩ | ((repeat apply Exists.intro); exact ⟨⟨p + 1, by go_num, hp4, HO5, HB5⟩, rfl⟩)
        case measure => simp [intOf]; omega
    · obtain rfl : p = l0.length := by omega
      have hO := HO.out
      rw [List.take_length] at hO
      have HBm := Lib.hid (bSp HBn.out HB.out)
      have HTm := Lib.hid (HTn.out.below HB.out)
      obtain ⟨Am, cm, em, hRm⟩ := own_reads hO
      subst em
      have HIN := Lib.hid hRm
      clear hO hRm HO HB HTn HBn
      have hINm := fun k hk => idxs_mem R l0 k hk
      have hINl := idxs_len R l0
      obtain ⟨INN, hINN⟩ : ∃ INN, idxs R l0 = INN := ⟨_, rfl⟩
      rw [hINN] at HIN hINm hINl ⊢
      have HIM := Lib.hid hINm
      have HII := Lib.hid hINN
      clear hINm hINN
      obtain ⟨wm, hwm⟩ : ∃ wm, wr = wm := ⟨_, rfl⟩
      rw [hwm] at HIN HBm HTm ⊢
      clear hwm
      go_wp2
      have HO0 := Lib.hid (show wm.ownsRow wm.heap.size 3 1 (.slice none 0 0) ([] : List Int).length (nums .i64 ([] : List Int)) from own_nil _ _ _ _)
      have HB0 := Lib.hid (Below.refl wm.heap.size wm)
      go_loopw [11, 13, 14] (fun v s i wr => ∃ (j : Nat) (out : List Int), i = .int .i64 (j : Int) ∧ s = .string (catB l0 out) ∧ j ≤ l2.length ∧ out.length ≤ j ∧ Hid (∀ k ∈ out, k ∈ INN) ∧ Hid (wr.ownsRow wm.heap.size 3 1 v out.length (nums .i64 out)) ∧ Hid (Below wm.heap.size wm wr)) (fun _ _ i _ => l2.length - (intOf i).toNat)
      case atStart => exact ⟨0, [], rfl, rfl, Nat.zero_le _, Nat.zero_le _, Lib.hid (by simp), HO0, HB0⟩
      case round =>
        clear HO0 HB0
        obtain ⟨j, out, rfl, rfl, hj, hoj, HMEM, HO, HB⟩ := hrel
        obtain ⟨Ao, co, eo⟩ := own_slice HO.out
        subst eo
        by_cases hgo : j < l2.length ∧ 0 < INN.length
        · obtain ⟨hlt, hpos⟩ := hgo
          have hsz1 : (catB l0 out).size ≤ 5000 := by have := catB_size l0 HS.out out; have := HN2.out; omega
          have hj4 : j + 1 ≤ l2.length := by omega
          have hN2 := HN2.out
          have hol : out.length + 1 ≤ j + 1 := by omega
          have HOA := Lib.hid (show out.length ≤ 100 from by have := HN2.out; omega)
          have hj2 : (j : Int) < (l2.length : Int) := by omega
          have hpos2 : (0 : Int) < (INN.length : Int) := by omega
          have hpos3 : decide ((INN.length : Int) > 0) = true := decide_eq_true (by omega)
          obtain ⟨ad2, e2, cb⟩ := byte_row HR2.out j hlt
          subst e2
          obtain ⟨b, hb⟩ : ∃ b, l2.getD j 0 = b := ⟨_, rfl⟩
          rw [hb] at cb
          have hb0 : 0 ≤ b ∧ b ≤ 255 := HW2.out b (by rw [← hb, List.getD_eq_getElem?_getD, List.getElem?_eq_getElem hlt]; exact List.getElem_mem hlt)
          obtain ⟨hb0, hb1⟩ := hb0
          have hbw := bSp HBm.out HB.out
          replace cb := (hbw.cell (World.block_lt_of_cell? w _ cb)).trans cb
          have hq : b.tmod (INN.length : Int) = b % (INN.length : Int) := Int.tmod_eq_emod_of_nonneg hb0
          have hne : (INN.length : Int) ≠ 0 := by omega
          have hq0 : 0 ≤ b % (INN.length : Int) := Int.emod_nonneg _ (by omega)
          have hq1 : b % (INN.length : Int) < (INN.length : Int) := Int.emod_lt_of_pos _ hpos2
          obtain ⟨q, hqq⟩ : ∃ q, b % (INN.length : Int) = q := ⟨_, rfl⟩
          rw [hqq] at hq hq0 hq1
          have HQ := Lib.hid hq
          have HNE := Lib.hid hne
          clear hq hqq hne
          obtain ⟨adI, eI, cI⟩ := ReadsInt.at_ HIN.out q hq0 hq1
          subst eI
          replace cI := (HB.out.cell (World.block_lt_of_cell? wm _ cI)).trans cI
          have hKm : rd INN q ∈ INN := by
            unfold rd
            rw [List.getD_eq_getElem?_getD, List.getElem?_eq_getElem (show q.toNat < INN.length by omega)]
            exact List.getElem_mem _
          obtain ⟨K, hK⟩ : ∃ K, rd INN q = K := ⟨_, rfl⟩
          rw [hK] at cI hKm
          obtain ⟨jx, x, rfl, hx, hxb⟩ := HIM.out K hKm
          have hjl := (List.getElem?_eq_some_iff.1 hx).1
          have hrd : rd_T33 l0 (jx : Int) = x := by simp [rd_T33, hx]
          obtain ⟨ad, e, g0, g1, g2, g3, g4⟩ := at_T33 HR.out (jx : Int) (by omega) (by omega)
          rw [hrd] at g2
          simp only [Int.toNat_natCast] at g2
          cases e
          have g2m := (HBm.out.cell (World.block_lt_of_cell? w _ g2)).trans g2
          have HGL := Lib.hid (World.block_lt_of_cell? wm _ g2m)
          have HG2 := Lib.hid g2m
          replace g2 := (hbw.cell (World.block_lt_of_cell? w _ g2)).trans g2
          clear g2m
          have hsz2 : x.f2.size ≤ 50 := (HS.out x (List.mem_of_getElem? hx)).2
          have HCS := Lib.hid (catB_snoc l0 out (jx : Int) x (by simpa using hx))
          have HMEM2 := Lib.hid (show ∀ k ∈ out ++ [(jx : Int)], k ∈ INN from fun k hk => by
            rcases List.mem_append.1 hk with hk | hk
            · exact HMEM.out k hk
            · rw [List.mem_singleton.1 hk]; exact hKm)
          have hjx2 : (jx : Int) < (l0.length : Int) := by omega
          have hjx3 : (jx : Int) ≤ (c0 : Int) := by omega
          have hjx4 : jx ≤ c0 := by omega
          obtain ⟨sB, hsB⟩ : ∃ sB, catB l0 out = sB := ⟨_, rfl⟩
          rw [hsB] at hsz1 HCS ⊢
          have hq := HQ.out
          have hne := HNE.out
          clear hbw hK hKm hx hxb hrd g0 g1 g3 g4 hsB hb
          go_wp2_with ((with_reducible refine gate_builtin (b := .append) (xs := #[.tmp 93, .tmp 95]) rfl ?_); at_builtin; refine print_append_num (w0 := wm) wm.heap.size rfl (.tmp 93) (.tmp 95) 30 3 .i64 8 rfl Try.underlying30 HI.out (by decide) _ out (jx : Int) rfl rfl HO.out HB.out HB.out.size (by have := HOA.out; omega) ?_; intro v1 W5 hown hB5 hg5 hat5; have HO5 := Lib.hid hown; have HB5 := Lib.hid hB5; replace g2 := (HB5.out.cell (p := ⟨(ad.add (jx * 5)).block, (ad.add (jx * 5)).off + 2, none⟩) (HGL.out)).trans HG2.out; clear hown hB5 hg5 hat5; obtain ⟨A5, c5, e5⟩ := own_slice HO5.out; subst e5)
          refine ⟨⟨j + 1, out ++ [(jx : Int)], by go_num, by rw [HCS.out], hj4, by rw [List.length_append, List.length_singleton]; exact hol, HMEM2, ?_, HB5⟩, by simp [intOf]; omega⟩
          have h := HO5.out
          rw [List.length_append, List.length_singleton] at h ⊢
          exact Lib.hid h
        · -- the loop's end
          have HBo := Lib.hid (bSp HBm.out HB.out)
          have HTo := Lib.hid (HTm.out.below HB.out)
          have hRo := own_reads HO.out
          obtain ⟨A6, c6, e6, hRo⟩ := hRo
          injection e6 with e6 _ e7
          subst e6 e7
          have HRO := Lib.hid hRo
          have hsz1 : (catB l0 out).size ≤ 5000 := by have := catB_size l0 HS.out out; have := HN2.out; omega
          have hcond : (j < l2.length → INN.length = 0) := fun h => by by_cases h0 : INN.length = 0; exact h0; exact absurd ⟨h, by omega⟩ hgo
          have hc1 : (j < l2.length ∧ INN.length = 0) ∨ ¬ j < l2.length := by
            by_cases h : j < l2.length
            · exact Or.inl ⟨h, hcond h⟩
            · exact Or.inr h
          clear hRo hcond hgo HO HB HTm HBm HIN
          obtain ⟨wo, hwo⟩ : ∃ wo, wr = wo := ⟨_, rfl⟩
          rw [hwo] at HBo HTo HRO ⊢
          clear hwo
          have HA0 := Lib.hid (show (0 : Int) = ((catB l0 (out.take 0)).size : Int) from rfl)
          have HBB := Lib.hid (Below.refl wo.heap.size wo)
          have HOL := Lib.hid (show out.length ≤ 100 from by have := HN2.out; omega)
          have hMall := fun k hk => HIM.out k (HMEM.out k hk)
          have HMALL := Lib.hid hMall
          have HOUT := Lib.hid (show ∀ k ∈ out, k ∈ idxs R l0 from fun k hk => by rw [HII.out]; exact HMEM.out k hk)
          clear hMall
          obtain ⟨hc1, hc2⟩ | hc1 := hc1
          all_goals first
            | (have k1 : (j : Int) < (l2.length : Int) := by omega
               have k2 : decide ((INN.length : Int) > 0) = false := decide_eq_false (by omega)
               have k3 : decide ((0 : Int) < (INN.length : Int)) = false := decide_eq_false (by omega)
               have k4 : ¬ (0 : Int) < (INN.length : Int) := by omega
               clear hc1 hc2
               go_wp2
               clear k1 k2 k3 k4)
            | (have k1 : ¬ (j : Int) < (l2.length : Int) := by omega
               have k2 : decide ((j : Int) < (l2.length : Int)) = false := decide_eq_false (by omega)
               clear hc1
               go_wp2
               clear k1 k2)
          all_goals
            go_loopw [16, 17] (fun v i wr => ∃ q : Nat, v = .int .i64 ((catB l0 (out.take q)).size : Int) ∧ i = .int .i64 (q : Int) ∧ q ≤ out.length ∧ Hid (Below wo.heap.size wo wr)) (fun _ i _ => out.length - (intOf i).toNat)
            case atStart => exact ⟨0, by rw [← HA0.out], rfl, Nat.zero_le _, HBB⟩
            case round =>
              clear HBB HA0
              obtain ⟨q, rfl, rfl, hq, HB⟩ := hrel
              have hT := HTo.out.below HB.out
              have hsq : (catB l0 (out.take q)).size ≤ 5000 := by have h1_ := catB_size l0 HS.out (out.take q); have := HOL.out; rw [List.length_take] at h1_; omega
              by_cases hlt : q < out.length
              · obtain ⟨k, hk⟩ : ∃ k, out[q]? = some k := ⟨out[q], List.getElem?_eq_getElem hlt⟩
                have hkm := List.mem_of_getElem? hk
                obtain ⟨jx, x, rfl, hx, hxb⟩ := HMALL.out k hkm
                have hTk : out.take (q + 1) = out.take q ++ [(jx : Int)] := by rw [List.take_add_one, hk]; rfl
                have hsplit : out = out.take q ++ (jx : Int) :: out.drop (q + 1) := by
                  obtain ⟨h1, h2⟩ := List.getElem?_eq_some_iff.1 hk
                  rw [← h2, List.getElem_cons_drop, List.take_append_drop]
                have hcs := congrArg ByteArray.size (catB_snoc l0 (out.take q) (jx : Int) x (by simpa using hx))
                rw [← hTk, ByteArray.size_append] at hcs
                have hmt := trie_Match.calls (.pointer (some ⟨m + 2, 0, none⟩)) (some (some l0)) (catB l0 out) ((catB l0 (out.take q)).size : Int) R (by omega) wr hT
                rw [back_at hA R hrow out HOUT.out (out.take q) (out.drop (q + 1)) (jx : Int) hsplit] at hmt
                simp only [ans, Option.getD_some, Option.isSome_some] at hmt
                have hjl := (List.getElem?_eq_some_iff.1 hx).1
                have hrd : rd_T33 l0 (jx : Int) = x := by simp [rd_T33, hx]
                obtain ⟨ad, e, g0, g1, g2, g3, g4⟩ := at_T33 HR.out (jx : Int) (by omega) (by omega)
                rw [hrd] at g2
                simp only [Int.toNat_natCast] at g2
                cases e
                replace g2 := (HBo.out.cell (World.block_lt_of_cell? w _ g2)).trans g2
                have HG2 := Lib.hid g2
                have HGL := Lib.hid (World.block_lt_of_cell? wo _ g2)
                obtain ⟨adO, eO, cO⟩ := ReadsInt.at_ HRO.out (q : Int) (by omega) (by omega)
                subst eO
                have hro : rd out (q : Int) = (jx : Int) := by simp [rd, hk]
                rw [hro] at cO
                simp only [Int.toNat_natCast] at cO
                have HCO := Lib.hid cO
                have HCL := Lib.hid (World.block_lt_of_cell? wo _ cO)
                have hq1 : q + 1 ≤ out.length := by omega
                have hq2 : (q : Int) < (out.length : Int) := by omega
                have hjx2 : (jx : Int) < (l0.length : Int) := by omega
                have hjx3 : (jx : Int) ≤ (c0 : Int) := by omega
                have hjx4 : jx ≤ c0 := by omega
                have hjj : ((jx : Int) != (jx : Int)) = false := by simp
                have hol := HOL.out
                have hsx : x.f2.size ≤ 50 := (HS.out x (List.mem_of_getElem? hx)).2
                have HCS := Lib.hid hcs
                have HB' := HB
                obtain ⟨sq, hsqe⟩ : ∃ sq, (catB l0 (out.take q)).size = sq := ⟨_, rfl⟩
                rw [hsqe] at hsq hmt HCS ⊢
                clear hT hk hkm hx hxb hTk hsplit hcs hrd g0 g1 g2 g3 g4 hro cO hsqe
                go_wp2_with fail
                go_at_call 13
                refine hmt.mono ?_
                rintro ex W4 ⟨rfl, b4⟩
                have hB4 := bSp HB.out b4
                have HB4 := Lib.hid hB4
                have g2 := (hB4.cell (p := ⟨(ad.add (jx * 5)).block, (ad.add (jx * 5)).off + 2, none⟩) HGL.out).trans HG2.out
                have cO := (hB4.cell (p := adO.add q) HCL.out).trans HCO.out
                clear hmt b4 hB4
                go_wp2
                go_roundw
                case rel => first | exact ⟨q + 1, by rw [HCS.out]; go_num, by go_num, hq1, HB4⟩ | ((repeat apply Exists.intro); exact ⟨⟨q + 1, by rw [HCS.out]; go_num, by go_num, hq1, HB4⟩, rfl⟩)
                case measure => simp [intOf]; omega
              · obtain rfl : q = out.length := by omega
                rw [List.take_length] at hsq ⊢
                have hi0 : ¬ (out.length : Int) < (out.length : Int) := by omega
                have hmt := trie_Match.calls (.pointer (some ⟨m + 2, 0, none⟩)) (some (some l0)) (catB l0 out) ((catB l0 out).size : Int) R (by omega) wr hT
                rw [back_end] at hmt
                simp only [ans, Option.getD_none, Option.isSome_none] at hmt
                have hss : (((catB l0 out).size : Int) == ((catB l0 out).size : Int)) = true := by simp
                clear hT
                go_wp2_with fail
                go_at_call 13
                refine hmt.mono ?_
                rintro ex W4 ⟨rfl, b4⟩
                have HB4 := Lib.hid (bSp HB.out b4)
                clear hmt b4
                go_wp2_with fail
                go_at_call 10
                refine (trie_awake.calls _).mono ?_
                rintro e w4 ⟨rfl, b4⟩
                go_wp2
                go_ret
                exact ⟨rfl, bSp (bSp HBo.out HB4.out) b4⟩
end Go.Proofs.Ytbpbniemjjhecaa.G
namespace Go.Proofs.Ytbpbniemjjhecaa.PChk
open Go.RowKit Go.Proofs.Ytbpbniemjjhecaa.G Go.Proofs.Ytbpbniemjjhecaa.PureC Go.Proofs.YtbpbniemjjhecaaW.PrintWords
def w10_TrieBack.f (_ : Nat) (_ : List Rl) (_ : Int) (l2 : List Int) : Option Bool := if l2.all (fun b => decide (0 ≤ b) && decide (b ≤ 255)) = true then some true else none
theorem w10_TrieBack.calls (k : Nat) (A0 : Option Addr) (c0 : Nat) (l0 : List Rl) (a1 : Int) (A2 : Option Addr) (c2 : Nat) (l2 : List Int) (r : Bool) (w : World) (hr0 : Kd.C k33 w A0 l0.length l0) (hc0 : l0.length ≤ c0) (hr2 : Kd.C (Kd.int .u8) w A2 l2.length l2) (hc2 : l2.length ≤ c2) (h : w10_TrieBack.f k l0 a1 l2 = some r) (hT : r = true) :
    Calls Try.prog 3 #[.slice A0 l0.length c0, .int .i64 a1, .slice A2 l2.length c2] w fun e w' => e = .returned (.bool r) ∧ Below w.heap.size w w' := by
  subst hT
  unfold w10_TrieBack.f at h
  by_cases hb : l2.all (fun b => decide (0 ≤ b) && decide (b ≤ 255)) = true
  · have hw2 : ∀ b ∈ l2, 0 ≤ b ∧ b ≤ 255 := fun b hm => by
      have h1 := List.all_eq_true.1 hb b hm
      simpa using h1
    rcases long_is l0 500 (Nat.le_refl _) with h | ⟨h, hl, hs⟩
    · exact back_long A0 c0 l0 a1 A2 c2 l2 true w hr0 hc0 h (Or.inl rfl)
    · by_cases h2 : l2.length > 100
      · exact back_long A0 c0 l0 a1 A2 c2 l2 false w hr0 hc0 h (Or.inr h2)
      · rcases table_two l0 with ht | ht
        · obtain ⟨h3, h4⟩ := new_apart l0 hl hs ht
          exact back_some A0 c0 l0 a1 A2 c2 l2 w hr0 hc0 hr2 hc2 hw2 hl hs h h2 h3 h4
        · exact back_none A0 c0 l0 a1 A2 c2 l2 _ _ w hr0 hc0 h h2 (new_not l0 hl hs ht) ht
  · rw [if_neg hb] at h
    cases h
end Go.Proofs.Ytbpbniemjjhecaa.PChk
namespace Go.Proofs.Ytbpbniemjjhecaa.PureC
open Go
theorem u8_range (z : Int) (h : (Lit.int .u8 z).wf = true) : 0 ≤ z ∧ z ≤ 255 := by
  have h1 : IntKind.u8.min ≤ z ∧ z ≤ IntKind.u8.max := by simpa [Lit.wf] using h
  have h2 : IntKind.u8.min = 0 := by decide
  have h3 : IntKind.u8.max = 255 := by decide
  omega
theorem trieBack_true (l0 : List Go.Proofs.Ytbpbniemjjhecaa.G.Rl) (a1 : Int) (l2 : List Int) (_ : (Go.Lit.int .i64 a1).wf = true) (_ : l2.length ≤ maxLen) (hw : ∀ n ∈ l2, (Go.Lit.int .u8 n).wf = true) : ∃ k, Go.Proofs.Ytbpbniemjjhecaa.PChk.w10_TrieBack.f k l0 a1 l2 = some true := ⟨0, if_pos (List.all_eq_true.2 fun b hb => by
  have h := u8_range b (hw b hb)
  simp [h.1, h.2])⟩
end Go.Proofs.Ytbpbniemjjhecaa.PureC
