import Derived.Test.YtgjkjoocnkdckaaZPureChkParts1
import Derived.Test.YtgjkjoocnkdckaaZPChk21
namespace Go.Proofs.Ytgjkjoocnkdckaa.PureC
open Go.RowKit Go.Proofs.Ytgjkjoocnkdckaa.PChk Go.Proofs.Ytgjkjoocnkdckaa.G Go.Proofs.YtgjkjoocnkdckaaW.PrintWords Go.Proofs.YtgjkjoocnkdckaaW.PrintLast
set_option linter.unusedSimpArgs false
theorem apart_reverse (l : List S23) (h : Apart l) : Apart l.reverse := by
  refine ⟨fun x hx => h.1 x (List.mem_reverse.1 hx), ?_⟩
  rw [List.pairwise_reverse]
  exact h.2.imp fun {a b} g => by rw [clash_swap]; exact g
theorem apart_sub (l m : List S23) (h : Apart l) (hs : m.Sublist l) : Apart m := ⟨fun x hx => h.1 x (hs.subset hx), h.2.sublist hs⟩
theorem whole_reverse (l : List S23) (h : Whole l) : Whole l.reverse := fun w hw => by
  rw [List.any_reverse]
  exact h w hw
theorem is_of_iff (x : S23) (w : Int) (s : ByteArray) : isOf w s x = true ↔ x.f0 = w ∧ x.f1.toList = s.toList := by
  unfold isOf
  rw [Bool.and_eq_true, beq_iff_eq, beq_iff_eq]
theorem miss_left (x : S23) (l : List S23) (hx : l.any (isOf x.f0 x.f1) = false) : ∀ ws : List S23, (∀ w ∈ ws, (w.f0 = x.f0 ∧ w.f1.toList = x.f1.toList) ∨ l.any (isOf w.f0 w.f1) = true) → (∃ w ∈ ws, w.f0 = x.f0 ∧ w.f1.toList = x.f1.toList) → (missGo l ws).toList = x.f1.toList
  | [], _, h => by obtain ⟨w, hw, _⟩ := h; cases hw
  | w :: ws, h, he => by
    rw [missGo]
    by_cases hw : l.any (isOf w.f0 w.f1) = true
    · rw [if_pos hw]
      refine miss_left x l hx ws (fun v hv => h v (List.mem_cons_of_mem _ hv)) ?_
      obtain ⟨v, hv, h1, h2⟩ := he
      rcases List.mem_cons.1 hv with rfl | hv
      · exfalso
        obtain ⟨y, hy, hyo⟩ := List.any_eq_true.1 hw
        rw [is_of_iff] at hyo
        have : l.any (isOf x.f0 x.f1) = true := List.any_eq_true.2 ⟨y, hy, (is_of_iff _ _ _).2 ⟨by rw [hyo.1, h1], by rw [hyo.2, h2]⟩⟩
        rw [hx] at this
        cases this
      · exact ⟨v, hv, h1, h2⟩
    · rw [if_neg hw]
      rcases h w List.mem_cons_self with h | h
      · exact h.2
      · exact absurd h hw
theorem split_at (l : List S23) (p : Nat) (hp : p < l.length) : l = l.take p ++ (l[p] :: l.drop (p + 1)) := by
  rw [← List.drop_eq_getElem_cons hp, List.take_append_drop]
theorem less_sub (l : List S23) (p : Nat) (hp : p < l.length) : (l.take p ++ l.drop (p + 1)).Sublist l := by
  have h := split_at l p hp
  have h2 : (l.take p ++ l.drop (p + 1)).Sublist (l.take p ++ (l[p] :: l.drop (p + 1))) := List.Sublist.append (List.Sublist.refl _) (List.sublist_cons_self _ _)
  rw [← h] at h2
  exact h2
theorem less_mem (l : List S23) (p : Nat) (hp : p < l.length) (y : S23) (hy : y ∈ l) (hne : y ≠ l[p]) : y ∈ l.take p ++ l.drop (p + 1) := by
  have h := split_at l p hp
  rw [h] at hy
  rcases List.mem_append.1 hy with g | g
  · exact List.mem_append_left _ g
  · rcases List.mem_cons.1 g with g | g
    · exact absurd g hne
    · exact List.mem_append_right _ g
theorem less_none (l : List S23) (p : Nat) (hp : p < l.length) (h : Apart l) : (l.take p ++ l.drop (p + 1)).any (isOf l[p].f0 l[p].f1) = false := by
  rw [Bool.eq_false_iff]
  intro g
  obtain ⟨y, hy, hyo⟩ := List.any_eq_true.1 g
  rw [is_of_iff] at hyo
  have hs := split_at l p hp
  have hc := h.2
  rw [hs] at hc
  obtain ⟨_, c2, c3⟩ := List.pairwise_append.1 hc
  have hcl : clashB y l[p] = true := clash_like y l[p] hyo.1 hyo.2
  rcases List.mem_append.1 hy with k | k
  · have e := c3 y k l[p] List.mem_cons_self
    rw [hcl] at e
    cases e
  · have e := (List.pairwise_cons.1 c2).1 y k
    rw [clash_swap, hcl] at e
    cases e
theorem less_has (l : List S23) (p : Nat) (hp : p < l.length) (h : Whole l) (w : S23) (hw : w ∈ wantedL) (hne : ¬ (w.f0 = l[p].f0 ∧ w.f1.toList = l[p].f1.toList)) : (l.take p ++ l.drop (p + 1)).any (isOf w.f0 w.f1) = true := by
  obtain ⟨y, hy, hyo⟩ := List.any_eq_true.1 (h w hw)
  have g := (is_of_iff _ _ _).1 hyo
  refine List.any_eq_true.2 ⟨y, less_mem l p hp y hy (fun e => hne ?_), hyo⟩
  rw [← e]
  exact ⟨g.1.symm, g.2.symm⟩
theorem tmod_at (a1 : Int) (n : Nat) (hn : 0 < n) : ∃ p : Nat, p < n ∧ Int.tmod (Go.bits .and .i64 a1 65535) (n : Int) = (p : Int) := by
  rw [and_64k]
  have h0 : 0 ≤ a1 % 65536 := by omega
  refine ⟨(a1 % 65536).toNat % n, Nat.mod_lt _ hn, ?_⟩
  have e : a1 % 65536 = ((a1 % 65536).toNat : Int) := by omega
  rw [e, Int.ofNat_tmod]
  simp
theorem turned_go (L : List S23) (hl : L.length ≤ 450) (a1 : Int) : ∀ (i k : Nat) (acc : List S23), i ≤ L.length → acc = (L.drop i).reverse →
    w9_CheckParts.l0 (k + i + 1) L a1 acc (i : Int) = (check_Table.f L.reverse).bind fun bt => if bt.2 = 0 then w9_CheckParts.j1 k L a1 ((L.length : Int) == 0) else w9_CheckParts.j1 k L a1 true
  | 0, k, acc, hi, ha => by
    rw [w9_CheckParts.l0, if_neg (by omega), ha, List.drop_zero]
  | i + 1, k, acc, hi, ha => by
    have ew : wrap64 (((i + 1 : Nat) : Int) - 1) = (i : Int) := by rw [wrap_of (by omega) (by omega)]; omega
    have hd : L.drop i = L[i] :: L.drop (i + 1) := List.drop_eq_getElem_cons (by omega)
    rw [show k + (i + 1) + 1 = (k + i + 1) + 1 from by omega, w9_CheckParts.l0, if_pos (by omega), ew, if_pos (by omega), if_pos (by omega), rd23 L i (by omega), Option.bind_some,
      if_pos (by rw [ha, List.length_reverse, List.length_drop]; simp only [List.length_cons, List.length_nil]; omega)]
    exact turned_go L hl a1 i k _ (by omega) (by rw [ha, hd, List.reverse_cons])
section
variable (l0 : List S23) (hs : ∀ x ∈ l0, Short x) (hap : Apart l0) (h4 : l0.length ≤ 400) (hwh : Whole l0) (p : Nat) (hp : p < l0.length)
theorem last_clash (hs : ∀ x ∈ l0, Short x) (hap : Apart l0) (h4 : l0.length ≤ 400) : check_Table.f (l0 ++ [l0[p]]) = some (l0[p].f4, 6) := by
  have hxa := hap.1 l0[p] (List.getElem_mem _)
  rw [table_check _ (by rw [List.length_append]; simp only [List.length_cons, List.length_nil]; omega) (fun x hx => by
    rcases List.mem_append.1 hx with g | g
    · exact hs x g
    · rw [List.mem_singleton.1 g]; exact hs _ (List.getElem_mem _))]
  unfold tableB
  rw [tab_append l0 [] _ ((tab_apart l0).2 hap), List.nil_append, tabB, if_pos hxa, if_pos (List.any_eq_true.2 ⟨l0[p], List.getElem_mem _, clash_like _ _ rfl rfl⟩)]
theorem j3_true (hs : ∀ x ∈ l0, Short x) (hap : Apart l0) (h4 : l0.length ≤ 400) (k : Nat) (hk7 : 7000 ≤ k) : w9_CheckParts.j3 (k + 1) l0 false l0[p].f0 l0[p].f1 l0[p].f2 l0[p].f3 l0[p].f4 = some true := by
  have hl := last_clash l0 p hp hs hap h4
  have hawk := awake_is k hk7
  generalize hx : l0[p] = x at hl
  rw [w9_CheckParts.j3, if_neg (by decide)]
  simp only [Option.bind_some, List.nil_append, List.length_nil, List.length_cons]
  rw [if_pos (by omega), if_pos (by omega)]
  obtain ⟨x0, x1, x2, x3, x4⟩ := x
  simp only at hl ⊢
  rw [hl, Option.bind_some, if_pos rfl, if_pos rfl, hawk, Option.bind_some]
theorem j2_wanted (hs : ∀ x ∈ l0, Short x) (hap : Apart l0) (h4 : l0.length ≤ 400) (hwh : Whole l0) (k : Nat) (hk7 : 7000 ≤ k) (hw : wantB l0[p] = true) :
    check_Table.f (l0.take p ++ l0.drop (p + 1)) = some (0, 6) ∧ w9_CheckParts.j2 (k + 2) l0 (l0.take p ++ l0.drop (p + 1)) 0 6 true l0[p].f0 l0[p].f1 l0[p].f2 l0[p].f3 l0[p].f4 = some true := by
  have hj3 := j3_true l0 p hp hs hap h4 k hk7
  have hxa := hap.1 l0[p] (List.getElem_mem _)
  have hsub := less_sub l0 p hp
  have hsl : ∀ x ∈ l0.take p ++ l0.drop (p + 1), Short x := fun x hx => hs x (hsub.subset hx)
  have hal := apart_sub _ _ hap hsub
  have hll : (l0.take p ++ l0.drop (p + 1)).length ≤ 400 := Nat.le_trans hsub.length_le h4
  have hm := miss_left l0[p] _ (less_none l0 p hp hap) wantedL (fun w hww => by
    by_cases hne : w.f0 = l0[p].f0 ∧ w.f1.toList = l0[p].f1.toList
    · exact Or.inl hne
    · exact Or.inr (less_has l0 p hp hwh w hww hne)) (is_wanted l0[p] hxa hw)
  have hne : l0[p].f1.toList ≠ [] := by
    obtain ⟨w, hww, _, e⟩ := is_wanted l0[p] hxa hw
    rw [← e]
    exact (wanted_ne w hww).1
  refine ⟨table_lacks _ hsl hal hll (by rw [hm]; exact hne), ?_⟩
  rw [w9_CheckParts.j2, if_pos rfl, if_pos rfl, if_pos rfl, missing_check _ (by omega), Option.bind_some, if_pos hm, hj3]
theorem j2_other (hs : ∀ x ∈ l0, Short x) (hap : Apart l0) (h4 : l0.length ≤ 400) (hwh : Whole l0) (k : Nat) (hk7 : 7000 ≤ k) (hw : wantB l0[p] = false) :
    check_Table.f (l0.take p ++ l0.drop (p + 1)) = some (0, 0) ∧ w9_CheckParts.j2 (k + 2) l0 (l0.take p ++ l0.drop (p + 1)) 0 0 false l0[p].f0 l0[p].f1 l0[p].f2 l0[p].f3 l0[p].f4 = some true := by
  have hj3 := j3_true l0 p hp hs hap h4 k hk7
  have hsub := less_sub l0 p hp
  have hsl : ∀ x ∈ l0.take p ++ l0.drop (p + 1), Short x := fun x hx => hs x (hsub.subset hx)
  have hal := apart_sub _ _ hap hsub
  have hll : (l0.take p ++ l0.drop (p + 1)).length ≤ 400 := Nat.le_trans hsub.length_le h4
  have hwl : Whole (l0.take p ++ l0.drop (p + 1)) := fun w hww => less_has l0 p hp hwh w hww (fun hne => by
    have g := (wanted_ne w hww).2
    have hz : w.f1.size = l0[p].f1.size := by
      have e := congrArg List.length hne.2
      rw [ByteArray.toList_eq, ByteArray.toList_eq, list_len, list_len] at e
      exact e
    rw [hne.1, hz] at g
    have : wantB l0[p] = true := by
      unfold wantB
      rw [Bool.or_eq_true, decide_eq_true_eq, Bool.and_eq_true, beq_iff_eq, beq_iff_eq]
      exact g
    rw [hw] at this
    cases this)
  refine ⟨table_fine _ hsl hal hll hwl, ?_⟩
  have e : ((0 : Int) != 0) = false := rfl
  rw [w9_CheckParts.j2, if_neg (by decide), e]
  exact hj3
end
theorem j1_true (l0 : List S23) (a1 : Int) (hs : ∀ x ∈ l0, Short x) (hap : Apart l0) (h4 : l0.length ≤ 400) (hwh : Whole l0) (hpos : 0 < l0.length) (k : Nat) (hk7 : 7000 ≤ k) : w9_CheckParts.j1 (k + 3) l0 a1 false = some true := by
  obtain ⟨p, hp, ep⟩ := tmod_at a1 l0.length hpos
  have ew : wrap64 ((p : Int) + 1) = ((p + 1 : Nat) : Int) := by rw [wrap_of (by omega) (by omega)]; omega
  have htk : (l0.take p).length = p := by rw [List.length_take]; omega
  have hww := j2_wanted l0 p hp hs hap h4 hwh k hk7
  have hwo := j2_other l0 p hp hs hap h4 hwh k hk7
  have hlt : (p : Int) < (l0.length : Int) := by omega
  rw [w9_CheckParts.j1, if_neg (by decide), if_neg (by omega), Option.bind_some]
  rw [ep, if_pos (by omega), if_pos (by omega), Option.bind_some, show ((p : Int)).toNat = p from by omega, if_pos (by rw [List.length_nil, htk]; omega), Option.bind_some, ew, if_pos (by omega), if_pos (by omega), Option.bind_some, show (((p + 1 : Nat)) : Int).toNat = p + 1 from by omega, List.nil_append,
    if_pos (by rw [htk, List.length_drop]; omega), Option.bind_some, rd23 l0 p hp]
  cases hw : wantB l0[p] with
  | true =>
    obtain ⟨g1, g2⟩ := hww hw
    rw [g1, Option.bind_some, if_pos hlt]
    unfold wantB at hw
    by_cases h6 : l0[p].f0 ≥ 6
    · rw [if_pos h6]
      exact g2
    · rw [decide_eq_false h6, Bool.false_or, Bool.and_eq_true, beq_iff_eq, beq_iff_eq] at hw
      rw [if_neg h6, if_pos hw.1, show ((l0[p].f1.size : Int) == 1) = true from beq_iff_eq.2 (by omega)]
      exact g2
  | false =>
    obtain ⟨g1, g2⟩ := hwo hw
    rw [g1, Option.bind_some, if_pos hlt]
    unfold wantB at hw
    rw [Bool.or_eq_false_iff, decide_eq_false_iff_not] at hw
    rw [if_neg hw.1]
    by_cases h1 : l0[p].f0 = 1
    · have hz : l0[p].f1.size ≠ 1 := by
        have g := hw.2
        rw [h1] at g
        intro e
        rw [e] at g
        cases g
      rw [if_pos h1, show ((l0[p].f1.size : Int) == 1) = false from beq_eq_false_iff_ne.2 (by omega)]
      exact g2
    · rw [if_neg h1]
      exact g2
theorem whole_pos (l0 : List S23) (hwh : Whole l0) : 0 < l0.length := by
  cases l0 with
  | nil =>
    exfalso
    have e : wantedL.isEmpty = false := by decide +kernel
    cases hq : wantedL with
    | nil => rw [hq] at e; cases e
    | cons w ws =>
      have h := hwh w (by rw [hq]; exact List.mem_cons_self)
      rw [List.any_nil] at h
      cases h
  | cons x l => exact Nat.succ_pos _
theorem parts_at (l0 : List S23) (a1 : Int) (K : Nat) (hK : 9000 ≤ K) : w9_CheckParts.f K l0 a1 = some true := by
  have hawk := awake_is K (by omega)
  unfold w9_CheckParts.f
  rcases long_is l0 K (by omega) with h | ⟨h, hl, hs⟩
  · rw [h, Option.bind_some, if_pos rfl, hawk, Option.bind_some]
  · obtain ⟨a, b, ht⟩ : ∃ a b, check_Table.f l0 = some (a, b) := ⟨_, _, table_check l0 (by omega) hs⟩
    rw [h, Option.bind_some, if_neg (by decide), ht, Option.bind_some]
    by_cases hb : b = 0
    · obtain ⟨hap, h4, hwh⟩ := (table_ok l0 (by omega) hs a b ht).1 hb
      have hpos := whole_pos l0 hwh
      have hrev := table_fine l0.reverse (fun x hx => hs x (List.mem_reverse.1 hx)) (apart_reverse l0 hap) (by rw [List.length_reverse]; exact h4) (whole_reverse l0 hwh)
      obtain ⟨k, hk, hk7⟩ : ∃ k, K = (k + 3) + l0.length + 1 ∧ 7000 ≤ k := ⟨K - l0.length - 4, by omega, by omega⟩
      have hgo := turned_go l0 hl a1 l0.length (k + 3) [] (Nat.le_refl _) (by rw [List.drop_length]; rfl)
      have e0 : ((l0.length : Int) == 0) = false := beq_eq_false_iff_ne.2 (by omega)
      rw [if_pos hb, hk, hgo, hrev, Option.bind_some, if_pos rfl, e0]
      exact j1_true l0 a1 hs hap h4 hwh hpos k hk7
    · rw [if_neg hb, hawk, Option.bind_some]
theorem checkParts_true (l0 : List S23) (a1 : Int) (_ : (Lit.int .i64 a1).wf = true) : ∃ k, w9_CheckParts.f k l0 a1 = some true := ⟨9000, parts_at l0 a1 9000 (Nat.le_refl _)⟩
end Go.Proofs.Ytgjkjoocnkdckaa.PureC
