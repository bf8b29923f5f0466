import Derived.Test.YtbpbniemjjhecaaGreatZPureChunkB
section
namespace Go.Proofs.YtbpbniemjjhecaaGreat.PureC
open Go.RowKit Go.Proofs.YtbpbniemjjhecaaGreat.PChk Go.Proofs.YtbpbniemjjhecaaGreat.G Go.Proofs.YtbpbniemjjhecaaGreat.GT Go.Proofs.YtbpbniemjjhecaaGreatW.PrintWords Go.Proofs.YtbpbniemjjhecaaGreatW.PrintLast
set_option linter.unusedSimpArgs false
set_option linter.unusedVariables false
theorem find_wanted {l : List Rl} (hA : Apart l) (hw : Whole l) {what : Int} {left : ByteArray} (hm : wRule what left ∈ wantedL) : ∃ x, 0 ≤ ruleI l what left ∧ l[(ruleI l what left).toNat]? = some x ∧ x.f0 = what ∧ x.f1 = left := by
 have h := hw _ hm
 rw [List.any_eq_true] at h
 obtain ⟨x, hx, he⟩ := h
 unfold isOf wRule at he
 rw [Bool.and_eq_true, beq_iff_eq, beq_iff_eq] at he
 obtain ⟨i, hi, rfl⟩ := List.getElem_of_mem hx
 have e1 : l[i].f1 = left := bytes_ext he.2
 have hf := found_left hA i l[i] (List.getElem?_eq_getElem hi)
 rw [he.1, e1] at hf
 have hr : ruleI l what left = (i : Int) := by unfold ruleI; rw [hf]; rfl
 rw [hr]
 exact ⟨l[i], by omega, List.getElem?_eq_getElem hi, he.1, e1⟩
theorem mem_sign {nm : ByteArray} (h : nm ∈ wNames) : wRule 8 nm ∈ wantedL := List.mem_append_right _ (List.mem_map_of_mem h)
theorem cap_in : capName ∈ wNames := .head _
theorem caps_in : capsName ∈ wNames := .tail _ (.head _)
theorem num_in : numName ∈ wNames := .tail _ (.tail _ (.head _))
theorem let_in : letName ∈ wNames := .tail _ (.tail _ (.tail _ (.head _)))
theorem mark_in {t : Tk} (h : (markF t).toList ≠ []) : markF t ∈ wNames := by
 unfold markF at *
 split at h
 ·
  rename_i h1
  rw [if_pos h1]
  split at h
  ·
   rename_i h2
   rw [if_pos h2]
   rcases h1 with e | e | e <;> rw [e]
   ·
    exact .tail _ (.tail _ (.tail _ (.tail _ (.head _))))
   ·
    exact .tail _ (.tail _ (.tail _ (.tail _ (.tail _ (.tail _ (.head _))))))
   ·
    exact .tail _ (.tail _ (.tail _ (.tail _ (.tail _ (.tail _ (.tail _ (.tail _ (.head _))))))))
  ·
   rename_i h2
   rw [if_neg h2]
   split at h
   ·
    rename_i h3
    rw [if_pos h3]
    rcases h1 with e | e | e <;> rw [e]
    ·
     exact .tail _ (.tail _ (.tail _ (.tail _ (.tail _ (.head _)))))
    ·
     exact .tail _ (.tail _ (.tail _ (.tail _ (.tail _ (.tail _ (.tail _ (.head _)))))))
    ·
     exact .tail _ (.tail _ (.tail _ (.tail _ (.tail _ (.tail _ (.tail _ (.tail _ (.tail _ (.head _)))))))))
   ·
    exact absurd (show (⟨#[]⟩ : ByteArray).toList = [] from toList_data _) h
 ·
  exact absurd (show (⟨#[]⟩ : ByteArray).toList = [] from toList_data _) h
theorem dig_256 : ∀ n : Fin 256, classN (n.val : Int) = 3 → 48 ≤ n.val ∧ n.val ≤ 57 ∧ lowN (UInt8.ofNat n.val) = UInt8.ofNat n.val := by decide +kernel
theorem mrk_256 : ∀ n : Fin 256, classN (n.val : Int) = 4 → wMarks.contains (UInt8.ofNat n.val) = true ∧ lowN (UInt8.ofNat n.val) = UInt8.ofNat n.val := by decide +kernel
theorem oneS_is (c : Int) : oneS c = ⟨#[UInt8.ofNat c.toNat]⟩ := rfl
theorem dig_in {t : Tk} (ho : okTk t) (h : classN t.f1 = 3) : wRule 7 (oneS t.f1) ∈ wantedL ∧ lowN (tb t) = tb t := by
 obtain ⟨n, hn⟩ : ∃ n : Nat, t.f1 = (n : Int) := ⟨t.f1.toNat, by have := ho.1; omega⟩
 have hb := ho.2
 rw [hn] at h hb
 obtain ⟨h1, h2, h3⟩ := dig_256 ⟨n, by omega⟩ h
 simp only at h1 h2 h3
 refine ⟨?_, by unfold tb; rw [hn]; exact h3⟩
 refine List.mem_append_left _ (List.mem_append_right _ ?_)
 unfold wBytes
 rw [oneS_is, hn]
 refine List.mem_map.2 ⟨UInt8.ofNat n, ?_, rfl⟩
 unfold G.upB
 exact List.mem_map.2 ⟨n - 48, List.mem_range.2 (by omega), by rw [show 48 + (n - 48) = n from by omega]⟩
theorem mrk_in {t : Tk} (ho : okTk t) (h : classN t.f1 = 4) : wRule 6 (oneS t.f1) ∈ wantedL ∧ lowN (tb t) = tb t := by
 obtain ⟨n, hn⟩ : ∃ n : Nat, t.f1 = (n : Int) := ⟨t.f1.toNat, by have := ho.1; omega⟩
 have hb := ho.2
 rw [hn] at h hb
 obtain ⟨h1, h3⟩ := mrk_256 ⟨n, by omega⟩ h
 simp only at h1 h3
 refine ⟨?_, by unfold tb; rw [hn]; exact h3⟩
 refine List.mem_append_left _ (List.mem_append_left _ (List.mem_append_right _ ?_))
 unfold wBytes
 rw [oneS_is, hn]
 exact List.mem_map.2 ⟨UInt8.ofNat n, by simpa using h1, rfl⟩
structure RunAt (toks : List Tk) (i : Nat) (s : ByteArray) : Prop where
 fit : i + s.size ≤ toks.length
 get : ∀ j, j < s.size → ∃ t, toks[i + j]? = some t ∧ t.f0 = 1 ∧ s.data.toList[j]? = some (tb t) ∧ ltC (tb t) = true
theorem RunAt.all {toks : List Tk} {i : Nat} {s : ByteArray} (h : RunAt toks i s) : s.data.toList.all ltC = true := by
 rw [List.all_eq_true]
 intro b hb
 obtain ⟨j, hj, rfl⟩ := List.getElem_of_mem hb
 obtain ⟨t, _, _, h3, h4⟩ := h.get j (by simpa using hj)
 rw [List.getElem?_eq_getElem hj] at h3
 rw [Option.some.inj h3]; exact h4
theorem lets_take : ∀ (l : List Tk) (j : Nat), j < lets l → ∃ t, l[j]? = some t ∧ letB t = true
 | [], j, h => by simp [lets] at h
 | t :: l, j, h => by
  unfold lets at h
  rw [List.takeWhile_cons] at h
  cases ht : letB t with
  | true =>
   rw [ht, if_pos rfl, List.length_cons] at h
   cases j with
   | zero => exact ⟨t, rfl, ht⟩
   | succ j => exact lets_take l j (by unfold lets; omega)
  | false => rw [ht, if_neg (by decide)] at h; simp at h
theorem lets_stop : ∀ (l : List Tk) (t : Tk), l[lets l]? = some t → letB t = false
 | [], t, h => by simp at h
 | x :: l, t, h => by
  unfold lets at h
  rw [List.takeWhile_cons] at h
  cases hx : letB x with
  | true =>
   rw [hx, if_pos rfl, List.length_cons, List.getElem?_cons_succ] at h
   exact lets_stop l t h
  | false =>
   rw [hx, if_neg (by decide)] at h
   simp at h
   rw [← h]; exact hx
theorem lets_le (l : List Tk) : lets l ≤ l.length := (List.takeWhile_sublist _).length_le
theorem let_class {t : Tk} (ho : okTk t) (h : letB t = true) : t.f0 = 1 ∧ ltC (tb t) = true := by
 unfold letB at h
 rw [Bool.and_eq_true, beq_iff_eq] at h
 refine ⟨h.1, ?_⟩
 unfold ltC loC upC
 rw [tb_nat ho]
 exact h.2
theorem run_at {toks : List Tk} (ho : ∀ t ∈ toks, okTk t) (i : Nat) (hi : i ≤ toks.length) : (G.runT toks i (lets (toks.drop i))).size = lets (toks.drop i) ∧ RunAt toks i (G.runT toks i (lets (toks.drop i))) := by
 have hl := lets_le (toks.drop i)
 rw [List.length_drop] at hl
 have hsz : (G.runT toks i (lets (toks.drop i))).size = lets (toks.drop i) := by
  unfold G.runT
  rw [str_size, List.length_map, List.length_take, List.length_drop]; omega
 refine ⟨hsz, by omega, fun j hj => ?_⟩
 obtain ⟨t, h1, h2⟩ := lets_take (toks.drop i) j (by omega)
 rw [List.getElem?_drop] at h1
 have hot := ho t (List.mem_of_getElem? h1)
 obtain ⟨h3, h4⟩ := let_class hot h2
 refine ⟨t, h1, h3, ?_, h4⟩
 unfold G.runT strOfNums
 simp only [List.map_map, List.getElem?_map]
 rw [List.getElem?_take, if_pos (by omega), List.getElem?_drop, h1]
 rfl
theorem ext_list (s : ByteArray) (a n : Nat) (h : a + n ≤ s.size) (j : Nat) (hj : j < n) : (s.extract a (a + n)).data.toList[j]? = s.data.toList[a + j]? := by
 have h1 : s.data.toList.length = s.size := by simp
 simp only [ByteArray.data_extract, Array.toList_extract, List.extract_eq_take_drop]
 rw [List.getElem?_take, if_pos (by omega), List.getElem?_drop]
theorem may_row {sz : Nat} {a : Nat} {what n q : Int} (h : mayP sz (a : Int) what n = true) (hq : (a = 0 ∧ q = 1) ∨ (0 < a ∧ q = 2)) : inB what q = true ∧ 1 ≤ what ∧ what ≤ 4 := by
 have h4 := may_four h
 refine ⟨?_, h4⟩
 unfold mayP at h
 rcases hq with ⟨ha, rfl⟩ | ⟨ha, rfl⟩
 ·
  rcases (by omega : what = 1 ∨ what = 2 ∨ what = 3 ∨ what = 4) with rfl | rfl | rfl | rfl
  ·
   rfl
  ·
   rfl
  ·
   rw [if_neg (by decide), if_neg (by decide), if_pos rfl, decide_eq_true_eq] at h; omega
  ·
   rw [if_neg (by decide), if_neg (by decide), if_neg (by decide), if_pos rfl, Bool.and_eq_true, decide_eq_true_eq] at h; omega
 ·
  rcases (by omega : what = 1 ∨ what = 2 ∨ what = 3 ∨ what = 4) with rfl | rfl | rfl | rfl
  ·
   rfl
  ·
   rw [if_neg (by decide), if_pos rfl, beq_iff_eq] at h; omega
  ·
   rfl
  ·
   rfl
theorem sp_taken {l : List Rl} {toks : List Tk} {i : Nat} {s : ByteArray} (hr : RunAt toks i s) {a m : Nat} {k : Int} {x : Rl} (ht : Taken l s a m k x) {q : Int} {h d : Bool} {ps : List Pc} (hq : (a = 0 ∧ q = 1) ∨ (0 < a ∧ q = 2))
  (hup : ∀ j, j < x.f1.size → ∀ b, s.data.toList[a + j]? = some b → upC b = (h || (d && j == 0))) (hrest : Sp l toks (i + (a + x.f1.size)) 2 h false ps) : Sp l toks (i + a) q h d (⟨k, (i : Int) + (a : Int), (x.f1.size : Int)⟩ :: ps) := by
 obtain ⟨r1, r2⟩ := may_row ht.may hq
 rw [← Nat.add_assoc] at hrest
 have hfit := ht.fit
 have hrf := hr.fit
 refine Sp.lets (i + a) q h d k x ps ht.nat ht.at_ r1 r2 ht.one (by omega) (fun j hj => ?_) hrest
 obtain ⟨t, t1, t2, t3, t4⟩ := hr.get (a + j) (by omega)
 rw [← Nat.add_assoc] at t1
 refine ⟨t, t1, t2, ?_, hup j hj _ t3⟩
 have hl := ht.left
 have e := congrArg (fun b : ByteArray => b.data.toList[j]?) hl
 rw [ext_list (lowS s) a x.f1.size (by rw [low_size]; exact hfit) j hj, low_list, List.getElem?_map, t3] at e
 exact e
theorem sp_all {l : List Rl} (hw : Whole l) {toks : List Tk} {i : Nat} {s : ByteArray} (hs : s.size ≤ 100000) (hr : RunAt toks i s) {R : List Pc} (hR : Sp l toks (i + s.size) 2 true false R) : ∀ (n a : Nat) (q : Int), s.size - a ≤ n → a ≤ s.size → ((a = 0 ∧ q = 1 ∧ 0 < s.size) ∨ (0 < a ∧ q = 2)) → (∀ j, a ≤ j → ∀ b, s.data.toList[j]? = some b → upC b = true) → Sp l toks (i + a) q true false (allPc l (i : Int) a (allF l (lowS s) (a : Int)) ++ R)
 | n, a, q, hn, ha, hq, hup => by
  by_cases hlt : a < s.size
  ·
   obtain ⟨x, k, ht, he⟩ := all_run (l := l) hw (by omega) hr.all hlt
   have h1 := ht.one
   have h2 := ht.fit
   rw [he, allPc, ht.leftN, List.cons_append]
   cases n with
   | zero => omega
   | succ n =>
    refine sp_taken hr ht (hq.elim (fun h => .inl ⟨h.1, h.2.1⟩) .inr) (fun j hj b hb => by rw [hup _ (by omega) b hb]; rfl) ?_
    exact sp_all hw hs hr hR n (a + x.f1.size) 2 (by omega) h2 (.inr ⟨by omega, rfl⟩) (fun j hj => hup j (by omega))
  ·
   have hq2 : q = 2 := by rcases hq with h | h <;> omega
   rw [all_stop (by omega), allPc, List.nil_append, hq2, show a = s.size from by omega]
   exact hR
theorem small_take (s : ByteArray) (a : Nat) : ∀ j, j < smallN s a → ∃ b, s.data.toList[a + j]? = some b ∧ loC b = true := by
 intro j hj
 unfold smallN at hj
 have key : ∀ (L : List UInt8) (j : Nat), j < (L.takeWhile fun b => classN (b.toNat : Int) == 1).length → ∃ b, L[j]? = some b ∧ loC b = true := by
  intro L
  induction L with
  | nil => intro j h; simp at h
  | cons b L ih =>
   intro j h
   rw [List.takeWhile_cons] at h
   cases hb : classN (b.toNat : Int) == 1 with
   | true =>
    rw [hb, if_pos rfl, List.length_cons] at h
    cases j with
    | zero => exact ⟨b, rfl, hb⟩
    | succ j => exact ih j (by omega)
   | false => rw [hb, if_neg (by decide)] at h; simp at h
 obtain ⟨b, h1, h2⟩ := key _ j hj
 rw [List.getElem?_drop] at h1
 exact ⟨b, h1, h2⟩
theorem lo_up {b : UInt8} (h : loC b = true) : upC b = false := by
 unfold loC at h; unfold upC
 rw [beq_iff_eq] at h
 rw [h]; rfl
theorem case_three {L : List UInt8} (h : caseL L = 3) : ∀ b ∈ L, upC b = true := by
 unfold caseL at h
 split at h
 ·
  split at h
  ·
   exact absurd h (by decide)
  ·
   split at h
   ·
    exact absurd h (by decide)
   ·
    split at h
    ·
     exact absurd h (by decide)
    ·
     split at h
     ·
      rename_i hu
      exact List.countP_eq_length.1 hu
     ·
      exact absurd h (by decide)
 ·
  exact absurd h (by decide)
theorem case_ext {s : ByteArray} (hs : s.size ≤ 100000) {a : Nat} (ha : a ≤ s.size) : caseF (s.extract a s.size) = caseL (s.data.toList.drop a) := by
 rw [caseF_is _ (by rw [ByteArray.size_extract]; omega), ← toList_data, drop_list s a ha]
theorem runGo_end (l : List Rl) (s : ByteArray) (frm : Int) (k : Nat) : runGo l s frm k s.size = [] := by
 cases k with
 | zero => rfl
 | succ k => rw [runGo, if_neg (by omega)]
theorem ok_cap {q : Int} (h : (q != 3) = true) : okZ q false capName = true := by
 unfold okZ
 rw [h, decide_eq_true (rfl : capName = capName)]; simp
theorem ok_caps {q : Int} (h : (q != 3) = true) : okZ q false capsName = true := by
 unfold okZ
 rw [h, decide_eq_true (rfl : capsName = capsName)]; simp
theorem ok_num {q : Int} (b : Bool) (h : (q != 3) = true) : okZ q b numName = true := by
 unfold okZ
 rw [h, decide_eq_true (rfl : numName = numName)]; simp
theorem ok_let (b : Bool) : okZ 3 b letName = true := by
 unfold okZ
 rw [decide_eq_true (rfl : letName = letName)]; simp
theorem sp_run {l : List Rl} (hA : Apart l) (hw : Whole l) {toks : List Tk} {i : Nat} {s : ByteArray} (hs : s.size ≤ 100000) (hr : RunAt toks i s) {R : List Pc} (hR : ∀ h, Sp l toks (i + s.size) 2 h false R) : ∀ (k a : Nat) (q : Int), s.size - a < k → a ≤ s.size → ((a = 0 ∧ q = 1 ∧ 0 < s.size) ∨ (0 < a ∧ q = 2)) → Sp l toks (i + a) q false false (runGo l s (i : Int) k a ++ R)
 | 0, a, q, hk, _, _ => by omega
 | k + 1, a, q, hk, ha, hq => by
  have hq3 : 1 ≤ q ∧ q ≤ 3 := by rcases hq with h | h <;> omega
  have hqn : (q != 3) = true := by rw [bne_iff_ne]; rcases hq with h | h <;> omega
  have hq' : (a = 0 ∧ q = 1) ∨ (0 < a ∧ q = 2) := hq.elim (fun h => .inl ⟨h.1, h.2.1⟩) .inr
  by_cases hlt : a < s.size
  ·
   rw [runGo, if_pos hlt]
   by_cases h3 : caseF (s.extract a s.size) = 3
   ·
    rw [if_pos h3]
    rw [case_ext hs (by omega)] at h3
    have hup := case_three h3
    obtain ⟨x, x0, x1, x2, x3⟩ := find_wanted hA hw (mem_sign caps_in)
    obtain ⟨e1, _, _⟩ := all_ends (l := l) hw (by omega) hr.all (s.size - a) a (Nat.le_refl _) ha
    rw [e1, runGo_end, List.append_nil, List.cons_append]
    refine Sp.zero (i + a) q false _ x _ x0 x1 x2 hq3 (by rw [x3]; exact ok_caps hqn) ?_
    rw [x3]
    refine sp_all hw hs hr (hR true) (s.size - a) a q (Nat.le_refl _) ha hq (fun j hj b hb => hup b (List.mem_of_getElem? (i := j - a) ?_))
    rw [List.getElem?_drop, show a + (j - a) = j from by omega]; exact hb
   ·
    rw [if_neg h3]
    by_cases h0 : smallN s a = 0
    ·
     rw [if_pos h0]
     obtain ⟨x, x0, x1, x2, x3⟩ := find_wanted hA hw (mem_sign cap_in)
     obtain ⟨y, ht⟩ := best_run (l := l) (m := 1 + smallN s (a + 1)) hw (by omega) hr.all hlt (by omega)
     rw [show ((1 + smallN s (a + 1) : Nat) : Int) = 1 + (smallN s (a + 1) : Int) from by omega] at ht
     have h1 := ht.one
     have h2 := ht.fit
     have h4 := ht.most
     rw [ht.leftN, List.cons_append, List.cons_append]
     refine Sp.zero (i + a) q false _ x _ x0 x1 x2 hq3 (by rw [x3]; exact ok_cap hqn) ?_
     rw [x3]
     refine sp_taken hr ht hq' (fun j hj b hb => ?_) (sp_run hA hw hs hr hR k (a + y.f1.size) 2 (by omega) h2 (.inr ⟨by omega, rfl⟩))
     by_cases hj0 : j = 0
     ·
      subst hj0
      rw [smallN_at hlt] at h0
      split at h0
      ·
       omega
      ·
       rename_i hc
       have hl := List.all_eq_true.1 hr.all b (List.mem_of_getElem? hb)
       have hbe : b = s[a] := by
        rw [Nat.add_zero, List.getElem?_eq_getElem (by simpa using hlt)] at hb
        exact (Option.some.inj hb).symm
       unfold ltC loC at hl
       rw [hbe, Bool.or_eq_true, beq_iff_eq] at hl
       rw [hbe, hl.resolve_left hc]
       rfl
     ·
      obtain ⟨c, c1, c2⟩ := small_take s (a + 1) (j - 1) (by omega)
      rw [show a + 1 + (j - 1) = a + j from by omega, hb] at c1
      rw [Option.some.inj c1, lo_up c2]
      have : (j == 0) = false := by simpa using hj0
      rw [this]; rfl
    ·
     rw [if_neg h0]
     obtain ⟨y, ht⟩ := best_run (l := l) (m := smallN s a) hw (by omega) hr.all hlt (by omega)
     have h1 := ht.one
     have h2 := ht.fit
     have h4 := ht.most
     rw [ht.leftN, List.cons_append]
     refine sp_taken hr ht hq' (fun j hj b hb => ?_) (sp_run hA hw hs hr hR k (a + y.f1.size) 2 (by omega) h2 (.inr ⟨by omega, rfl⟩))
     obtain ⟨c, c1, c2⟩ := small_take s a j (by omega)
     rw [hb] at c1
     rw [Option.some.inj c1, lo_up c2]; rfl
  ·
   have hq2 : q = 2 := by rcases hq with h | h <;> omega
   rw [show a = s.size from by omega, runGo_end, List.nil_append, hq2]
   exact hR false
end Go.Proofs.YtbpbniemjjhecaaGreat.PureC
end
section
namespace Go.Proofs.YtbpbniemjjhecaaGreat.PureC
open Go.RowKit Go.Proofs.YtbpbniemjjhecaaGreat.PChk Go.Proofs.YtbpbniemjjhecaaGreat.G Go.Proofs.YtbpbniemjjhecaaGreat.GT Go.Proofs.YtbpbniemjjhecaaGreatW.PrintWords Go.Proofs.YtbpbniemjjhecaaGreatW.PrintLast
set_option linter.unusedSimpArgs false
set_option linter.unusedVariables false
theorem beh_at {toks : List Tk} {i : Nat} {t : Tk} (h : toks[i]? = some t) : behB toks (i + 1) = digB t := by
 unfold behB
 rw [Nat.add_sub_cancel, h, decide_eq_true (Nat.succ_pos i)]
 rfl
theorem not_both {t : Tk} (h : letB t = true) : digB t = false := by
 unfold letB at h; unfold digB
 rw [Bool.and_eq_true, Bool.or_eq_true, beq_iff_eq, beq_iff_eq, beq_iff_eq] at h
 rcases h.2 with e | e <;> rw [e] <;> simp
theorem sp_spell {l : List Rl} (hA : Apart l) (hw : Whole l) {toks : List Tk} (hlen : toks.length ≤ 100000) (ho : ∀ t ∈ toks, okTk t) (hck : checkT toks = true) : ∀ (k i : Nat) (q : Int) (h : Bool), toks.length - i < k → i ≤ toks.length → 1 ≤ q ∧ q ≤ 3 → (q = 3 ↔ behB toks i = true) → (q = 2 → ∀ t, toks[i]? = some t → letB t = false) → (q = 1 → h = false) → Sp l toks i q h false (spellGo l toks k i)
 | 0, i, q, h, hk, _, _, _, _, _ => by omega
 | k + 1, i, q, h, hk, hi, hq, h3, h2, h1 => by
  rw [spellGo]
  cases hx : toks[i]? with
  | none =>
   have hil : i = toks.length := by
    have := List.getElem?_eq_none_iff.1 hx; omega
   rw [hil]
   exact Sp.done q h
  | some t =>
   obtain ⟨hlt, het⟩ := List.getElem?_eq_some_iff.1 hx
   have hot := ho t (List.mem_of_getElem? hx)
   have hck1 := List.all_eq_true.1 hck t (List.mem_of_getElem? hx)
   simp only
   by_cases hl : letB t = true
   ·
    rw [if_pos hl]
    obtain ⟨hsz, hr⟩ := run_at ho i hi
    have hn1 : 1 ≤ lets (toks.drop i) := by
     unfold lets
     rw [List.drop_eq_getElem_cons hlt, het, List.takeWhile_cons, if_pos hl, List.length_cons]; omega
    have hfit := hr.fit
    have hlast : ∃ u, toks[i + lets (toks.drop i) - 1]? = some u ∧ letB u = true := by
     obtain ⟨u, u1, u2⟩ := lets_take (toks.drop i) (lets (toks.drop i) - 1) (by omega)
     rw [List.getElem?_drop, show i + (lets (toks.drop i) - 1) = i + lets (toks.drop i) - 1 from by omega] at u1
     exact ⟨u, u1, u2⟩
    have hR : ∀ h', Sp l toks (i + (G.runT toks i (lets (toks.drop i))).size) 2 h' false (spellGo l toks k (i + lets (toks.drop i))) := fun h' => by
     rw [hsz] at hfit ⊢
     refine sp_spell hA hw hlen ho hck k _ 2 h' (by omega) (by omega) (by omega) ⟨fun e => absurd e (by decide), fun e => ?_⟩ (fun _ u hu => ?_) (fun e => absurd e (by decide))
     ·
      exfalso
      obtain ⟨u, u1, u2⟩ := hlast
      have := beh_at u1
      rw [show i + lets (toks.drop i) - 1 + 1 = i + lets (toks.drop i) from by omega, e, not_both u2] at this
      cases this
     ·
      refine lets_stop (toks.drop i) u ?_
      rw [List.getElem?_drop]; exact hu
    have hrun := sp_run hA hw (s := G.runT toks i (lets (toks.drop i))) (by omega) hr hR ((G.runT toks i (lets (toks.drop i))).size + 1) 0 1 (by omega) (by omega) (.inl ⟨rfl, rfl, by omega⟩)
    rw [Nat.add_zero] at hrun
    by_cases hb : behB toks i = true
    ·
     rw [if_pos hb]
     obtain rfl := h3.2 hb
     obtain ⟨x, x0, x1, x2, x3⟩ := find_wanted hA hw (mem_sign let_in)
     refine Sp.zero i 3 h _ x _ x0 x1 x2 (by omega) (by rw [x3]; exact ok_let h) ?_
     rw [x3]
     exact hrun
    ·
     rw [if_neg hb, List.nil_append]
     have hq1 : q = 1 := by
      by_cases e3 : q = 3
      ·
       exact absurd (h3.1 e3) hb
      ·
       by_cases e2 : q = 2
       ·
        have := h2 e2 t hx
        rw [this] at hl; cases hl
       ·
        omega
     rw [hq1]
     rw [h1 hq1]; exact hrun
   ·
    rw [if_neg hl]
    have hlf : letB t = false := Bool.eq_false_iff.2 hl
    by_cases hd : digB t = true
    ·
     rw [if_pos hd]
     have hd2 := hd
     unfold digB at hd2
     rw [Bool.and_eq_true, beq_iff_eq, beq_iff_eq] at hd2
     obtain ⟨m1, m2⟩ := dig_in hot hd2.2
     obtain ⟨x, x0, x1, x2, x3⟩ := find_wanted hA hw m1
     have htail : ∀ h', Sp l toks i 3 h' false ((⟨ruleI l 7 (oneS t.f1), (i : Int), 1⟩ : Pc) :: spellGo l toks k (i + 1)) := fun h' => by
      refine Sp.tok i 3 h' _ x t _ x0 x1 (by omega) hx (.inl ⟨x2, rfl, hd2.1, x3, m2⟩) ?_
      rw [if_pos x2]
      exact sp_spell hA hw hlen ho hck k (i + 1) 3 false (by omega) (by omega) (by omega) ⟨fun _ => by rw [beh_at hx]; exact hd, fun _ => rfl⟩ (fun e => absurd e (by decide)) (fun e => absurd e (by decide))
     by_cases hb : behB toks i = true
     ·
      rw [if_pos hb, List.nil_append]
      obtain rfl := h3.2 hb
      exact htail h
     ·
      rw [if_neg hb, List.cons_append, List.nil_append]
      have hqn : (q != 3) = true := bne_iff_ne.2 fun e => hb (h3.1 e)
      obtain ⟨y, y0, y1, y2, y3⟩ := find_wanted hA hw (mem_sign num_in)
      refine Sp.zero i q h _ y _ y0 y1 y2 hq (by rw [y3]; exact ok_num h hqn) ?_
      rw [y3]
      exact htail false
    ·
     rw [if_neg hd]
     have hdf : digB t = false := Bool.eq_false_iff.2 hd
     have hrest : Sp l toks (i + 1) 1 false false (spellGo l toks k (i + 1)) :=
      sp_spell hA hw hlen ho hck k (i + 1) 1 false (by omega) (by omega) (by omega) ⟨fun e => absurd e (by decide), fun e => by rw [beh_at hx, hdf] at e; cases e⟩ (fun e => absurd e (by decide)) (fun _ => rfl)
     by_cases hf : t.f0 = 1
     ·
      rw [if_pos hf]
      have hc4 : classN t.f1 = 4 := by
       unfold tokB chB at hck1
       unfold letB at hlf
       unfold digB at hdf
       have hm : (markF t).toList = ([] : List UInt8) := by
        rw [toList_data]
        unfold markF
        rw [hf]
        split
        ·
         rfl
        ·
         rfl
       rw [hf] at hck1 hlf hdf
       rw [decide_eq_true hm, Bool.not_true, Bool.or_false] at hck1
       simp only [beq_self_eq_true, Bool.true_and, Bool.or_eq_true, Bool.or_eq_false_iff, beq_iff_eq, beq_eq_false_iff_ne] at hck1 hlf hdf
       rcases hck1 with ((e | e) | e) | e
       ·
        exact absurd e hlf.1
       ·
        exact absurd e hlf.2
       ·
        exact absurd e hdf
       ·
        exact e
      obtain ⟨m1, m2⟩ := mrk_in hot hc4
      obtain ⟨x, x0, x1, x2, x3⟩ := find_wanted hA hw m1
      refine Sp.tok i q h _ x t _ x0 x1 hq hx (.inr (.inl ⟨x2, hf, x3, m2⟩)) ?_
      rw [if_neg (by omega)]
      exact hrest
     ·
      rw [if_neg hf]
      have hm : (markF t).toList ≠ [] := fun e => by
       unfold tokB chB at hck1
       rw [beq_eq_false_iff_ne.2 hf, decide_eq_true e] at hck1
       simp at hck1
      obtain ⟨x, x0, x1, x2, x3⟩ := find_wanted hA hw (mem_sign (mark_in hm))
      refine Sp.tok i q h _ x t _ x0 x1 hq hx (.inr (.inr ⟨x2, hf, x3, hm⟩)) ?_
      rw [if_neg (by omega)]
      exact hrest
theorem sp_chunk {l : List Rl} (hA : Apart l) (hw : Whole l) {toks : List Tk} (hlen : toks.length ≤ 100000) (ho : ∀ t ∈ toks, okTk t) (hck : checkT toks = true) : Sp l toks 0 1 false false (spellC l toks) :=
 sp_spell hA hw hlen ho hck (toks.length + 1) 0 1 false (by omega) (by omega) (by omega) ⟨fun e => absurd e (by decide), fun e => by cases e⟩ (fun e => absurd e (by decide)) (fun _ => rfl)
theorem run_len {l : List Rl} (hw : Whole l) {s : ByteArray} (hs : s.size ≤ 100000) (hL : s.data.toList.all ltC = true) (frm : Int) : ∀ (k a : Nat), a ≤ s.size → (runGo l s frm k a).length ≤ 2 * (s.size - a)
 | 0, a, _ => by rw [runGo]; exact Nat.zero_le _
 | k + 1, a, ha => by
  rw [runGo]
  by_cases hlt : a < s.size
  ·
   rw [if_pos hlt]
   by_cases h3 : caseF (s.extract a s.size) = 3
   ·
    rw [if_pos h3]
    obtain ⟨e1, e2, _⟩ := all_ends (l := l) hw (by omega) hL (s.size - a) a (Nat.le_refl _) ha
    have hp : ∀ (r : List Int) (b : Nat), (allPc l frm b r).length = r.length := by
     intro r
     induction r with
     | nil => intro b; rfl
     | cons i r ih => intro b; rw [allPc, List.length_cons, List.length_cons, ih]
    rw [e1, runGo_end, List.append_nil, List.length_cons, hp]; omega
   ·
    rw [if_neg h3]
    by_cases h0 : smallN s a = 0
    ·
     rw [if_pos h0]
     obtain ⟨y, ht⟩ := best_run (l := l) (m := 1 + smallN s (a + 1)) hw (by omega) hL hlt (by omega)
     rw [show ((1 + smallN s (a + 1) : Nat) : Int) = 1 + (smallN s (a + 1) : Int) from by omega] at ht
     have h1 := ht.one
     have h2 := ht.fit
     have ih := run_len hw hs hL frm k (a + y.f1.size) h2
     rw [ht.leftN, List.length_cons, List.length_cons]; omega
    ·
     rw [if_neg h0]
     obtain ⟨y, ht⟩ := best_run (l := l) (m := smallN s a) hw (by omega) hL hlt (by omega)
     have h1 := ht.one
     have h2 := ht.fit
     have ih := run_len hw hs hL frm k (a + y.f1.size) h2
     rw [ht.leftN, List.length_cons]; omega
  ·
   rw [if_neg hlt]; exact Nat.zero_le _
theorem spell_len {l : List Rl} (hw : Whole l) {toks : List Tk} (hlen : toks.length ≤ 100000) (ho : ∀ t ∈ toks, okTk t) : ∀ (k i : Nat), i ≤ toks.length → (spellGo l toks k i).length ≤ 3 * (toks.length - i)
 | 0, i, _ => by rw [spellGo]; exact Nat.zero_le _
 | k + 1, i, hi => by
  rw [spellGo]
  cases hx : toks[i]? with
  | none => exact Nat.zero_le _
  | some t =>
   obtain ⟨hlt, het⟩ := List.getElem?_eq_some_iff.1 hx
   simp only
   split
   ·
    rename_i hl
    obtain ⟨hsz, hr⟩ := run_at ho i hi
    have hn1 : 1 ≤ lets (toks.drop i) := by
     unfold lets
     rw [List.drop_eq_getElem_cons hlt, het, List.takeWhile_cons, if_pos hl, List.length_cons]; omega
    have hfit := hr.fit
    have h1 := run_len (l := l) hw (s := G.runT toks i (lets (toks.drop i))) (by omega) hr.all (i : Int) ((G.runT toks i (lets (toks.drop i))).size + 1) 0 (Nat.zero_le _)
    have h2 := spell_len hw hlen ho k (i + lets (toks.drop i)) (by omega)
    rw [List.length_append, List.length_append]
    split <;> simp only [List.length_cons, List.length_nil] <;> omega
   ·
    have h2 := spell_len hw hlen ho k (i + 1) (by omega)
    split
    ·
     rw [List.length_append, List.length_cons]
     split <;> simp only [List.length_cons, List.length_nil] <;> omega
    ·
     split
     ·
      rw [List.length_cons]; omega
     ·
      rw [List.length_cons]; omega
theorem cells_len {l : List Rl} (hs : ∀ x ∈ l, Short x) : ∀ (ps : List Pc) (acc : List UInt8), (cellsGo l ps acc).size ≤ acc.length + 1000 * ps.length
 | [], acc => by rw [cellsGo]; rw [acc_size]; simp
 | p :: ps, acc => by
  rw [cellsGo]
  split
  ·
   have h := cells_len hs ps (acc ++ (rd_T50 l p.f0).f2.data.toList)
   have h2 := rd_short (fun x hx => by have := (hs x hx).2; omega : ∀ x ∈ l, x.f2.size ≤ 1000) p.f0
   have e : (rd_T50 l p.f0).f2.data.toList.length = (rd_T50 l p.f0).f2.size := Array.length_toList
   rw [List.length_append, e] at h
   rw [List.length_cons]; omega
  ·
   exact Nat.zero_le _
theorem looks_nil {l : List Rl} (hA : Apart l) (hw : Whole l) : looksB l ⟨#[]⟩ = false := by
 have hword : (wordO (some (some l)) ⟨#[]⟩).isSome = false := by
  cases hw2 : wordO (some (some l)) ⟨#[]⟩ with
  | none => rfl
  | some i =>
   exfalso
   rw [word_plain hA] at hw2
   obtain ⟨j, x, h1, h2, _⟩ := fst_some _ l 0 i hw2
   unfold wordP at h2
   rw [Bool.and_eq_true, decide_eq_true_eq, decide_eq_true_eq] at h2
   exact cells_pos x (hA.1 x (List.mem_of_getElem? h1)) (by rw [h2.2])
 have hcut : ∀ nm ∈ wNames, (cutP ⟨#[]⟩ (signO (some (some l)) nm)).2 = false := fun nm hm => by
  obtain ⟨x, x0, x1, x2, x3⟩ := find_wanted hA hw (mem_sign hm)
  have hsg : signO (some (some l)) nm = x.f2 := by
   have := found_sign hA (ruleI l 8 nm).toNat x x1 x2
   rw [x3] at this; exact this
  have hne := cells_pos x (hA.1 x (List.mem_of_getElem? x1))
  have hp : preP ⟨#[]⟩ x.f2 = false := by
   unfold preP
   rw [Bool.and_eq_false_iff]
   left
   rw [decide_eq_false_iff_not]
   intro h
   have h0 : x.f2.size = 0 := Nat.le_zero.1 h
   exact hne (List.eq_nil_of_length_eq_zero (by simpa using h0))
  rw [hsg]
  unfold cutP
  rw [hp]; rfl
 unfold looksB
 rw [looksGo, hcut _ cap_in, if_neg (by decide), looksGo, hcut _ caps_in, if_neg (by decide), looksGo]
 exact hword
theorem okC_true {l : List Rl} (hA : Apart l) (hw : Whole l) (hs : ∀ x ∈ l, Short x) {toks : List Tk} (hlen : toks.length ≤ 300) (ho : ∀ t ∈ toks, okTk t) : okC l toks = true := by
 have h1 := spell_len (l := l) hw (by omega) ho (toks.length + 1) 0 (Nat.zero_le _)
 have h2 := cells_len (l := l) hs (spellC l toks) []
 have e1 : (spellC l toks).length ≤ 3 * toks.length := h1
 have hrun : (List.range toks.length).all (fun i => runOkB l (G.runT toks i (lets (toks.drop i)))) = true := by
  rw [List.all_eq_true]
  intro i hi
  rw [List.mem_range] at hi
  obtain ⟨hsz, hr⟩ := run_at ho i (by omega)
  have hfit := hr.fit
  have hok := run_ok (l := l) hw (s := G.runT toks i (lets (toks.drop i))) (by omega) hr.all
  generalize G.runT toks i (lets (toks.drop i)) = s at hok
  unfold runOkB
  rw [List.all_eq_true]
  intro a ha
  rw [List.mem_range] at ha
  rw [Bool.and_eq_true]
  constructor
  ·
   split
   ·
    rename_i hc
    obtain ⟨c1, c2, c3, c4⟩ := hok.caps a ha hc
    simp only [Bool.and_eq_true, decide_eq_true_eq, List.all_eq_true]
    exact ⟨⟨⟨c1, c2⟩, c3⟩, c4⟩
   ·
    rfl
  ·
   rw [List.all_eq_true]
   intro m hm
   rw [List.mem_range] at hm
   obtain ⟨c1, c2⟩ := hok.step a (m + 1) ha (by omega) (by omega)
   simp only [Bool.and_eq_true, decide_eq_true_eq]
   exact ⟨c1, c2⟩
 have hshort : (l.all fun x => decide (x.f1.size ≤ 50) && decide (x.f2.size ≤ 50)) = true := by
  rw [List.all_eq_true]
  intro x hx
  rw [Bool.and_eq_true, decide_eq_true_eq, decide_eq_true_eq]
  exact hs x hx
 unfold okC
 rw [hshort, hrun, decide_eq_true (by omega : (spellC l toks).length ≤ 100000), decide_eq_true (by simp only [List.length_nil] at h2; omega : (cellsGo l (spellC l toks) []).size ≤ 1000000)]
 cases hsp : spellC l toks with
 | nil =>
  rw [show cellsGo l [] [] = (⟨#[]⟩ : ByteArray) from rfl, looks_nil hA hw]; rfl
 | cons p ps => simp
theorem fit_true {toks : List Tk} (hlen : toks.length ≤ 300) (ho : ∀ t ∈ toks, okTk t) : fitT toks = true := by
 unfold fitT
 rw [decide_eq_true (by omega), Bool.true_and, List.all_eq_true]
 exact fun t ht => (okTkB_iff t).2 (ho t ht)
theorem of_f {l : List Rl} (hA : Apart l) (hw : Whole l) (hs : ∀ x ∈ l, Short x) {toks : List Tk} (hlen : toks.length ≤ 300) (ho : ∀ t ∈ toks, okTk t) (v : Value) : chunk_Of.f ⟨v, some (some l)⟩ toks = if checkT toks = true then some (ofC l toks, 0) else some ([], 1) := by
 have hne : l ≠ [] := by
  obtain ⟨x, hx, _⟩ := letter_rule hw 97 (by decide) (by decide)
  exact List.ne_nil_of_mem hx
 have hji : (some (some l) : Option (Option (List Rl))).join.getD [] = l := rfl
 unfold chunk_Of.f
 simp only [hji]
 rw [if_neg (by rw [List.isEmpty_iff]; exact hne), if_pos (fit_true hlen ho), if_pos (okC_true hA hw hs hlen ho)]
end Go.Proofs.YtbpbniemjjhecaaGreat.PureC
end
