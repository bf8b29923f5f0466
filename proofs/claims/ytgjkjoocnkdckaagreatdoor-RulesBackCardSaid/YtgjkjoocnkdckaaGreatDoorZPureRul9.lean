import Derived.Test.YtgjkjoocnkdckaaGreatDoorZPureRul8
namespace Go.Proofs.YtgjkjoocnkdckaaGreatDoor.PureC
open Go.RowKit Go.Proofs.YtgjkjoocnkdckaaGreatDoor.PChk Go.Proofs.YtgjkjoocnkdckaaGreatDoor.G Go.Proofs.YtgjkjoocnkdckaaGreatDoor.PureD Go.Proofs.YtgjkjoocnkdckaaGreatDoorW.PrintWords Go.Proofs.YtgjkjoocnkdckaaGreatDoorW.PrintLast
set_option linter.unusedSimpArgs false
theorem left_size (w : Int) (s : ByteArray) (h : leftB w s = true) : s.size ≤ 50 := by
  unfold leftB at h
  split at h
  · rw [Bool.and_eq_true, beq_iff_eq] at h; omega
  · split at h
    · rw [Bool.and_eq_true, beq_iff_eq] at h; omega
    · split at h
      · unfold memB at h
        obtain ⟨t, ht, he⟩ := List.any_eq_true.1 h
        have e : s.data.toList = t.data.toList := by rw [← ByteArray.toList_eq, ← ByteArray.toList_eq]; exact beq_iff_eq.1 he
        have hs := list_len s
        have ht2 := list_len t
        have hsz : ∀ t ∈ namesL, t.size ≤ 10 := by decide
        have := hsz t ht
        rw [e] at hs
        omega
      · rw [Bool.and_eq_true, decide_eq_true_eq] at h; omega
theorem num_range (s : ByteArray) : 0 ≤ (numF s).1 ∧ (numF s).1 ≤ 99 := by
  rcases num_cases s with ⟨_, h⟩ | ⟨_, h⟩ | ⟨a, h, _⟩ | ⟨a, b, h, _⟩
  · rw [h]; exact ⟨by decide, by decide⟩
  · rw [h]; exact ⟨by decide, by decide⟩
  · have e : numF s = if isD a = true then ((a.toNat : Int) - 48, true) else (0, false) := by unfold numF; rw [h]
    rw [e]
    split
    · next hd => have := (isD_iff a).1 hd; exact ⟨by show 0 ≤ (a.toNat : Int) - 48; omega, by show (a.toNat : Int) - 48 ≤ 99; omega⟩
    · exact ⟨by decide, by decide⟩
  · have e : numF s = if isD a = true ∧ isD b = true ∧ a ≠ 48 then (((a.toNat : Int) - 48) * 10 + ((b.toNat : Int) - 48), true) else (0, false) := by unfold numF; rw [h]
    rw [e]
    split
    · next hd => have h1 := (isD_iff a).1 hd.1; have h2 := (isD_iff b).1 hd.2.1; exact ⟨by show 0 ≤ ((a.toNat : Int) - 48) * 10 + ((b.toNat : Int) - 48); omega, by show ((a.toNat : Int) - 48) * 10 + ((b.toNat : Int) - 48) ≤ 99; omega⟩
    · exact ⟨by decide, by decide⟩
theorem cells_may (p : ByteArray) (h : (parseGo (parts 45 p) [] 0).2.2 = 0) : printB (parseGo (parts 45 p) [] 0).1 = true := by
  obtain ⟨cs, c1, c2, c3, c4⟩ := parse_inv (parts 45 p) [] 0 (by decide) h
  rw [c4, List.nil_append, strs_nums]
  have hne : cs ≠ [] := by
    intro e
    rw [e] at c2
    have : parts 45 p = [] := c2
    unfold parts at this
    exact splitOn_nn 45 p.data.toList (List.map_eq_nil_iff.1 this)
  have hpos : 0 < cs.length := List.length_pos_iff.2 hne
  unfold printB
  rw [mk_data, Bool.and_eq_true]
  have c3' : cs.length ≤ 4 := by simpa using c3
  refine ⟨decide_eq_true ⟨hpos, c3'⟩, ?_⟩
  unfold cellsB
  rw [List.all_eq_true] at *
  intro c hc
  have h2 := c1 c hc
  unfold okc at h2
  rw [Bool.and_eq_true, decide_eq_true_eq, decide_eq_true_eq] at h2
  exact decide_eq_true ⟨by omega, by omega⟩
theorem rule_may (l : List ByteArray) (ln : Int) (x : Rl) (h : ruleM l ln = some x) : mayB x = true ∧ x.f4 = ln ∧ x.f1.size ≤ 50 ∧ x.f2.size ≤ 50 := by
  unfold ruleM at h
  split at h
  · next hc =>
    obtain ⟨h1, h2, h3, h4, h5⟩ := hc
    obtain rfl := Option.some.inj h
    have hb := (idxP_bound (at0 l 0)).2
    have hp := cells_may _ h4
    refine ⟨?_, rfl, left_size _ _ h3, by have := print_pos _ hp; show (parseGo (parts 45 (at0 l 2)) [] 0).1.size ≤ 50; omega⟩
    unfold mayB
    simp only [h3, hp, Bool.and_true, Bool.and_eq_true]
    refine ⟨decide_eq_true ⟨h1, hb⟩, ?_⟩
    by_cases c5 : idxP (at0 l 0) ≤ 5
    · rw [if_pos c5, if_pos c5]
      exact decide_eq_true (num_range _)
    · rw [if_neg c5, if_neg c5]
      rfl
  · cases h
def risesB : List Rl → Int → Prop
  | [], _ => True
  | x :: l, n => n < x.f4 ∧ risesB l x.f4
theorem rises_snoc : ∀ (l : List Rl) (n m : Int) (y : Rl), risesB l n → (∀ x ∈ l, x.f4 ≤ m) → n ≤ m → m < y.f4 → risesB (l ++ [y]) n
  | [], n, m, y, _, _, h1, h2 => ⟨by omega, trivial⟩
  | x :: l, n, m, y, h, hx, h1, h2 => ⟨h.1, rises_snoc l x.f4 m y h.2 (fun z hz => hx z (List.mem_cons_of_mem _ hz)) (hx x List.mem_cons_self) h2⟩
theorem parse_may : ∀ (ps : List ByteArray) (acc : List Rl) (ln : Int), 0 ≤ ln → (∀ x ∈ acc, mayB x = true ∧ x.f1.size ≤ 50 ∧ x.f2.size ≤ 50 ∧ x.f4 ≤ ln) → risesB acc 0 →
    (∀ x ∈ (parseM ps acc ln).1, mayB x = true ∧ x.f1.size ≤ 50 ∧ x.f2.size ≤ 50) ∧ risesB (parseM ps acc ln).1 0
  | [], acc, ln, _, ha, hr => ⟨fun x hx => ⟨(ha x hx).1, (ha x hx).2.1, (ha x hx).2.2.1⟩, hr⟩
  | p :: ps, acc, ln, h0, ha, hr => by
    rw [parseM]
    split
    · exact parse_may ps acc (ln + 1) (by omega) (fun x hx => ⟨(ha x hx).1, (ha x hx).2.1, (ha x hx).2.2.1, by have := (ha x hx).2.2.2; omega⟩) hr
    · split
      · next y hy =>
        obtain ⟨m1, m2, m3, m4⟩ := rule_may _ _ _ hy
        split
        · exact ⟨fun x hx => (by cases hx), trivial⟩
        · refine parse_may ps (acc ++ [y]) (ln + 1) (by omega) (fun x hx => ?_) (rises_snoc acc 0 ln y hr (fun x hx => (ha x hx).2.2.2) h0 (by omega))
          rcases List.mem_append.1 hx with hx | hx
          · exact ⟨(ha x hx).1, (ha x hx).2.1, (ha x hx).2.2.1, by have := (ha x hx).2.2.2; omega⟩
          · rw [List.mem_singleton.1 hx]
            exact ⟨m1, m3, m4, by omega⟩
      · exact ⟨fun x hx => (by cases hx), trivial⟩
theorem rises_at : ∀ (l : List Rl) (n : Int) (i : Nat) (x y : Rl), risesB l n → l[i]? = some x → l[i + 1]? = some y → x.f4 < y.f4
  | [], n, i, x, y, _, h, _ => by simp at h
  | [z], n, i, x, y, _, _, h => by simp at h
  | z :: u :: l, n, 0, x, y, h, h1, h2 => by
    simp at h1 h2
    subst h1
    subst h2
    exact h.2.1
  | z :: u :: l, n, i + 1, x, y, h, h1, h2 => rises_at (u :: l) z.f4 i x y h.2 (by simpa using h1) (by simpa using h2)
theorem rises_pos : ∀ (l : List Rl) (n : Int), risesB l n → ∀ x ∈ l, n < x.f4
  | [], n, _, x, hx => by cases hx
  | z :: l, n, h, x, hx => by
    rcases List.mem_cons.1 hx with rfl | hx
    · exact h.1
    · have := rises_pos l z.f4 h.2 x hx
      have := h.1
      omega
end Go.Proofs.YtgjkjoocnkdckaaGreatDoor.PureC
