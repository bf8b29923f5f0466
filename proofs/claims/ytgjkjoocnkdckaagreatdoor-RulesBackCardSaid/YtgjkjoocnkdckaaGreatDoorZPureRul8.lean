import Derived.Test.YtgjkjoocnkdckaaGreatDoorZPureRulD
import Derived.Test.YtgjkjoocnkdckaaGreatDoorZPureRul6
namespace Go.Proofs.YtgjkjoocnkdckaaGreatDoor.PureC
open Go.RowKit Go.Proofs.YtgjkjoocnkdckaaGreatDoor.PChk Go.Proofs.YtgjkjoocnkdckaaGreatDoor.G Go.Proofs.YtgjkjoocnkdckaaGreatDoor.PureD Go.Proofs.YtgjkjoocnkdckaaGreatDoorW.PrintWords Go.Proofs.YtgjkjoocnkdckaaGreatDoorW.PrintLast
set_option linter.unusedSimpArgs false
def okb (c : UInt8) : Prop := c ≠ 32 ∧ c ≠ 10
theorem class_no : ∀ n : Fin 256, (classN (n.val : Int) = 1 ∨ classN (n.val : Int) = 3 ∨ classN (n.val : Int) = 4) → n.val ≠ 32 ∧ n.val ≠ 10 := by decide +kernel
theorem byte_no (c : UInt8) (h : classN (c.toNat : Int) = 1 ∨ classN (c.toNat : Int) = 3 ∨ classN (c.toNat : Int) = 4) : okb c := by
  have := class_no ⟨c.toNat, c.toNat_lt⟩ h
  exact ⟨fun e => this.1 (by rw [e]; rfl), fun e => this.2 (by rw [e]; rfl)⟩
theorem names_no : ∀ t ∈ namesL, ∀ c ∈ t.data.toList, okb c := by
  unfold okb
  decide
theorem left_no (w : Int) (s : ByteArray) (h : leftB w s = true) : ∀ c ∈ s.data.toList, okb c := by
  have one : ∀ k : Int, (k = 3 ∨ k = 4) → (s.size == 1 && classN (bt s 0) == k) = true → ∀ c ∈ s.data.toList, okb c := by
    intro k hk h c hc
    rw [Bool.and_eq_true, beq_iff_eq, beq_iff_eq] at h
    have hl := list_len s
    rcases hd : s.data.toList with _ | ⟨a, _ | ⟨b, l⟩⟩
    · rw [hd] at hc; cases hc
    · rw [hd] at hc
      rw [List.mem_singleton.1 hc]
      have hb : bt s 0 = (a.toNat : Int) := bt_list s _ 0 a hd rfl
      rw [hb] at h
      exact byte_no a (by rcases hk with rfl | rfl; exact .inr (.inl h.2); exact .inr (.inr h.2))
    · rw [hd] at hl
      simp only [List.length_cons] at hl
      omega
  unfold leftB at h
  split at h
  · exact one 4 (.inr rfl) h
  · split at h
    · exact one 3 (.inl rfl) h
    · split at h
      · unfold memB at h
        obtain ⟨t, ht, he⟩ := List.any_eq_true.1 h
        have e : s.data.toList = t.data.toList := by rw [← ByteArray.toList_eq, ← ByteArray.toList_eq]; exact beq_iff_eq.1 he
        rw [e]
        exact names_no t ht
      · rw [Bool.and_eq_true] at h
        unfold smallB at h
        intro c hc
        exact byte_no c (.inl (beq_iff_eq.1 (List.all_eq_true.1 h.2 c hc)))
theorem dots_no : ∀ n : Fin 256, ∀ c ∈ (dotsOf n.val).data.toList, okb c := by
  unfold okb
  decide +kernel
theorem jd_no : ∀ cs : List UInt8, ∀ c ∈ jd cs, okb c
  | [], c, h => by simp [jd, Lib.join, List.intercalate] at h
  | [x], c, h => by
    rw [jd_one] at h
    exact dots_no ⟨x.toNat, x.toNat_lt⟩ c h
  | x :: y :: l, c, h => by
    rw [jd_cons, List.mem_append, List.mem_cons] at h
    rcases h with h | h | h
    · exact dots_no ⟨x.toNat, x.toNat_lt⟩ c h
    · rw [h]; exact ⟨by decide, by decide⟩
    · exact jd_no (y :: l) c h
theorem dec_no : ∀ n : Fin 100, ∀ c ∈ dec2 n.val, okb c := by
  unfold okb
  decide +kernel
theorem dec_num : ∀ n : Fin 100, numF ⟨(dec2 n.val).toArray⟩ = ((n.val : Int), true) := by decide +kernel
theorem words_no (i : Int) (h1 : 1 ≤ i) (h8 : i ≤ 8) : (∀ c ∈ (at0 words9 i.toNat).data.toList, okb c) ∧ idxP (at0 words9 i.toNat) = i ∧ 0 < (at0 words9 i.toNat).size ∧ bt (at0 words9 i.toNat) 0 ≠ 35 := by
  unfold okb
  rcases f0_cases i h1 h8 with rfl | rfl | rfl | rfl | rfl | rfl | rfl | rfl <;> refine ⟨by decide +kernel, by decide +kernel, by decide +kernel, by decide +kernel⟩
def lineT (x : Rl) : List UInt8 := (lineB x (printOf x.f2.data.toList).1).data.toList ++ tailL x
def fieldsL (x : Rl) : List (List UInt8) := [(at0 words9 x.f0.toNat).data.toList, x.f1.data.toList, jd x.f2.data.toList] ++ (if x.f0 ≤ 5 then [dec2 x.f3.toNat] else [])
theorem okc_of (s : ByteArray) (h : printB s = true) : s.data.toList.all okc = true ∧ 1 ≤ s.data.toList.length ∧ s.data.toList.length ≤ 4 := by
  unfold printB cellsB at h
  rw [Bool.and_eq_true, decide_eq_true_eq] at h
  have hl := list_len s
  refine ⟨?_, by omega, by omega⟩
  rw [List.all_eq_true] at *
  intro c hc
  have h2 := h.2 c hc
  rw [decide_eq_true_eq] at h2
  unfold okc
  rw [Bool.and_eq_true, decide_eq_true_eq, decide_eq_true_eq]
  omega
theorem may_parts (x : Rl) (h : mayB x = true) : (1 ≤ x.f0 ∧ x.f0 ≤ 8) ∧ leftB x.f0 x.f1 = true ∧ printB x.f2 = true ∧ (x.f0 ≤ 5 → 0 ≤ x.f3 ∧ x.f3 ≤ 99) ∧ (¬ x.f0 ≤ 5 → x.f3 = 0) := by
  unfold mayB at h
  simp only [Bool.and_eq_true, decide_eq_true_eq] at h
  obtain ⟨⟨⟨h1, h2⟩, h3⟩, h4⟩ := h
  refine ⟨h1, h2, h3, fun h5 => ?_, fun h5 => ?_⟩
  · rw [if_pos h5] at h4
    simpa using h4
  · rw [if_neg h5] at h4
    simpa using h4
theorem line_split (x : Rl) (h : mayB x = true) : splitOn 32 (lineT x) = fieldsL x ∧ (∀ c ∈ lineT x, c ≠ 10) := by
  obtain ⟨⟨h1, h8⟩, hl, hp, h5, h6⟩ := may_parts x h
  obtain ⟨k1, k2, k3⟩ := okc_of x.f2 hp
  have hpr : (printOf x.f2.data.toList).1 = ⟨(jd x.f2.data.toList).toArray⟩ := by unfold printOf; rw [if_pos ⟨k1, k2, k3⟩]
  obtain ⟨w1, _, _, _⟩ := words_no x.f0 h1 h8
  have w2 := left_no _ _ hl
  have w3 := jd_no x.f2.data.toList
  have e : (lineB x (printOf x.f2.data.toList).1).data.toList = (at0 words9 x.f0.toNat).data.toList ++ 32 :: (x.f1.data.toList ++ 32 :: jd x.f2.data.toList) := by
    unfold lineB
    rw [hpr]
    simp only [ByteArray.data_append, Array.toList_append, List.append_assoc]
    rfl
  unfold lineT fieldsL
  rw [e]
  by_cases c5 : x.f0 ≤ 5
  · have hd := h5 c5
    have w4 := dec_no ⟨x.f3.toNat, by omega⟩
    have et : tailL x = 32 :: dec2 x.f3.toNat := by
      unfold tailL numB
      rw [if_pos c5]
      simp only [ByteArray.data_append, Array.toList_append]
      rfl
    rw [et, if_pos c5]
    constructor
    · have e2 : (at0 words9 x.f0.toNat).data.toList ++ 32 :: (x.f1.data.toList ++ 32 :: jd x.f2.data.toList) ++ 32 :: dec2 x.f3.toNat = (at0 words9 x.f0.toNat).data.toList ++ 32 :: (x.f1.data.toList ++ 32 :: (jd x.f2.data.toList ++ 32 :: dec2 x.f3.toNat)) := by simp
      rw [e2, splitOn_cut 32 _ _ (fun c hc => (w1 c hc).1), splitOn_cut 32 _ _ (fun c hc => (w2 c hc).1), splitOn_cut 32 _ _ (fun c hc => (w3 c hc).1), splitOn_no 32 _ (fun c hc => (w4 c hc).1)]
      rfl
    · intro c hc
      simp only [List.mem_append, List.mem_cons] at hc
      rcases hc with (hc | hc | hc | hc | hc) | hc | hc
      · exact (w1 c hc).2
      · rw [hc]; decide
      · exact (w2 c hc).2
      · rw [hc]; decide
      · exact (w3 c hc).2
      · rw [hc]; decide
      · exact (w4 c hc).2
  · have et : tailL x = [] := by unfold tailL; rw [if_neg c5]
    rw [et, if_neg c5, List.append_nil, List.append_nil]
    constructor
    · rw [splitOn_cut 32 _ _ (fun c hc => (w1 c hc).1), splitOn_cut 32 _ _ (fun c hc => (w2 c hc).1), splitOn_no 32 _ (fun c hc => (w3 c hc).1)]
    · intro c hc
      simp only [List.mem_append, List.mem_cons] at hc
      rcases hc with hc | hc | hc | hc | hc
      · exact (w1 c hc).2
      · rw [hc]; decide
      · exact (w2 c hc).2
      · rw [hc]; decide
      · exact (w3 c hc).2
def atLine (x : Rl) (ln : Int) : Rl := ⟨x.f0, x.f1, x.f2, x.f3, ln⟩
theorem ba_self (s : ByteArray) : (⟨s.data.toList.toArray⟩ : ByteArray) = s := ByteArray.ext (Array.toList_inj.1 rfl)
theorem line_rule (x : Rl) (h : mayB x = true) (ln : Int) : ruleM (parts 32 ⟨(lineT x).toArray⟩) ln = some (atLine x ln) ∧ skipB ⟨(lineT x).toArray⟩ = false := by
  obtain ⟨⟨h1, h8⟩, hl, hp, h5, h6⟩ := may_parts x h
  obtain ⟨k1, k2, k3⟩ := okc_of x.f2 hp
  obtain ⟨_, w2, w3, w4⟩ := words_no x.f0 h1 h8
  have hsp := (line_split x h).1
  have hparts : parts 32 ⟨(lineT x).toArray⟩ = (fieldsL x).map fun l => (⟨l.toArray⟩ : ByteArray) := by
    unfold parts
    rw [mk_data, hsp]
  have hne : x.f2.data.toList ≠ [] := fun e => by rw [e] at k2; simp at k2
  have hcells : (parseGo (parts 45 ⟨(jd x.f2.data.toList).toArray⟩) [] 0) = (x.f2, 0, 0) := by
    unfold parts
    rw [mk_data, split_jd _ hne, dots_mk, parseGo_dots _ [] 0 k1 (by simpa using k3), List.nil_append, strs_nums, ba_self]
  constructor
  · rw [hparts]
    unfold fieldsL ruleM
    have a0 : ∀ t, at0 ((([(at0 words9 x.f0.toNat).data.toList, x.f1.data.toList, jd x.f2.data.toList] ++ t) : List (List UInt8)).map fun l => (⟨l.toArray⟩ : ByteArray)) 0 = at0 words9 x.f0.toNat := fun t => ba_self _
    have a1 : ∀ t, at0 ((([(at0 words9 x.f0.toNat).data.toList, x.f1.data.toList, jd x.f2.data.toList] ++ t) : List (List UInt8)).map fun l => (⟨l.toArray⟩ : ByteArray)) 1 = x.f1 := fun t => ba_self _
    have a2 : ∀ t, at0 ((([(at0 words9 x.f0.toNat).data.toList, x.f1.data.toList, jd x.f2.data.toList] ++ t) : List (List UInt8)).map fun l => (⟨l.toArray⟩ : ByteArray)) 2 = ⟨(jd x.f2.data.toList).toArray⟩ := fun t => rfl
    simp only [a0, a1, a2, w2, hcells]
    by_cases c5 : x.f0 ≤ 5
    · have hd := h5 c5
      have hn := dec_num ⟨x.f3.toNat, by omega⟩
      simp only at hn
      have a3 : at0 ((([(at0 words9 x.f0.toNat).data.toList, x.f1.data.toList, jd x.f2.data.toList] ++ [dec2 x.f3.toNat]) : List (List UInt8)).map fun l => (⟨l.toArray⟩ : ByteArray)) 3 = ⟨(dec2 x.f3.toNat).toArray⟩ := rfl
      simp only [if_pos c5, a3, hn]
      rw [if_pos ⟨h1, by unfold wantN; rw [if_pos ⟨h1, c5⟩]; rfl, hl, trivial, fun _ => trivial⟩]
      unfold atLine
      rw [show ((x.f3.toNat : Nat) : Int) = x.f3 from by omega]
    · simp only [if_neg c5]
      rw [if_pos ⟨h1, by unfold wantN; rw [if_neg (fun h => c5 h.2)]; rfl, hl, trivial, fun h => absurd h c5⟩]
      unfold atLine
      rw [h6 c5]
  · have hz : (lineT x).length = (at0 words9 x.f0.toNat).size + ((lineT x).length - (at0 words9 x.f0.toNat).size) := by
      have : (at0 words9 x.f0.toNat).size ≤ (lineT x).length := by
        unfold lineT lineB
        simp only [ByteArray.data_append, Array.toList_append, List.length_append, list_len]
        omega
      omega
    have hs0 : (⟨(lineT x).toArray⟩ : ByteArray).size = (lineT x).length := rfl
    have hb : bt (⟨(lineT x).toArray⟩ : ByteArray) 0 = bt (at0 words9 x.f0.toNat) 0 := by
      obtain ⟨c, hc⟩ : ∃ c, (at0 words9 x.f0.toNat).data.toList[0]? = some c := ⟨_, List.getElem?_eq_getElem (by rw [list_len]; exact w3)⟩
      have hb1 : bt (at0 words9 x.f0.toNat) 0 = (c.toNat : Int) := bt_list (at0 words9 x.f0.toNat) _ 0 c rfl hc
      rw [hb1]
      refine bt_list _ (lineT x) 0 c (mk_data _) ?_
      unfold lineT lineB
      simp only [ByteArray.data_append, Array.toList_append, List.append_assoc]
      rw [List.getElem?_append_left (by rw [list_len]; exact w3)]
      exact hc
    rw [Bool.eq_false_iff]
    intro hsk
    rcases (skip_iff _).1 hsk with h | h
    · rw [hs0] at h; omega
    · rw [hb] at h; exact w4 h
def joinT : List Rl → List UInt8
  | [] => []
  | x :: l => (lineT x ++ [10]) ++ joinT l
theorem prt_model : ∀ (l : List Rl) (acc : List UInt8), (∀ x ∈ l, x.f1.size ≤ 5000 ∧ x.f2.size ≤ 50) → prtO l acc = some (if l.all mayB = true then (⟨(acc ++ joinT l).toArray⟩, 0) else (⟨#[]⟩, 1))
  | [], acc, _ => by rw [prtO, joinT, List.append_nil]; rfl
  | x :: l, acc, h => by
    have hx := h x List.mem_cons_self
    rw [prtO, may_check x 1000 (by omega) (by omega) (by omega), Option.bind_some, List.all_cons]
    by_cases hm : mayB x = true
    · obtain ⟨⟨h1, h8⟩, hl, hp, h5, h6⟩ := may_parts x hm
      obtain ⟨k1, k2, k3⟩ := okc_of x.f2 hp
      have hsz : (printOf x.f2.data.toList).1.size ≤ 100 := by
        unfold printOf
        rw [if_pos ⟨k1, k2, k3⟩]
        have := jd_len x.f2.data.toList
        show (jd x.f2.data.toList).length ≤ 100
        omega
      have hf : fitsP x (printOf x.f2.data.toList).1 = true := by
        unfold fitsP
        exact decide_eq_true ⟨h1, h8, by omega, by omega, fun c => by have := h5 c; omega⟩
      rw [if_pos hm, print_at x.f2 (by omega) 1000 (by omega), Option.bind_some, if_pos hf, prt_model l _ (fun y hy => h y (List.mem_cons_of_mem _ hy)), hm, Bool.true_and]
      have e : ((acc ++ (lineB x (printOf x.f2.data.toList).1).data.toList) ++ tailL x) ++ [10] ++ joinT l = acc ++ joinT (x :: l) := by
        rw [joinT]
        unfold lineT
        simp only [List.append_assoc]
      rw [e]
    · rw [if_neg hm, Bool.eq_false_iff.2 hm, Bool.false_and]
      rfl
theorem join_split : ∀ l : List Rl, l.all mayB = true → splitOn 10 (joinT l) = l.map lineT ++ [[]]
  | [], _ => rfl
  | x :: l, h => by
    rw [List.all_cons, Bool.and_eq_true] at h
    rw [joinT, List.append_assoc, List.singleton_append, splitOn_cut 10 _ _ (line_split x h.1).2, join_split l h.2]
    rfl
theorem parse_lines8 : ∀ (l : List Rl) (acc : List Rl) (ln : Nat), l.all mayB = true → acc.length + l.length ≤ 400 → parseM ((l.map lineT ++ [[]]).map fun t : List UInt8 => (⟨t.toArray⟩ : ByteArray)) acc (ln : Int) = (acc ++ unlGo l ln, 0, 0)
  | [], acc, ln, _, _ => by
    show parseM [⟨#[]⟩] acc (ln : Int) = _
    rw [parseM, if_pos (show skipB ⟨#[]⟩ = true from rfl), parseM, unlGo, List.append_nil]
  | x :: l, acc, ln, h, hl => by
    rw [List.all_cons, Bool.and_eq_true] at h
    simp only [List.length_cons] at hl
    obtain ⟨r1, r2⟩ := line_rule x h.1 ((ln : Int) + 1)
    show parseM (⟨(lineT x).toArray⟩ :: ((l.map lineT ++ [[]]).map fun t : List UInt8 => (⟨t.toArray⟩ : ByteArray))) acc (ln : Int) = _
    rw [parseM, r2, if_neg (by decide), r1]
    simp only
    have ih := parse_lines8 l (acc ++ [atLine x ((ln : Int) + 1)]) (ln + 1) h.2 (by rw [List.length_append, List.length_singleton]; omega)
    rw [if_neg (by omega), show ((ln : Int) + 1) = ((ln + 1 : Nat) : Int) from by omega] at *
    rw [ih, unlGo, List.append_assoc]
    rfl
theorem joinT_len : ∀ l : List Rl, l.all mayB = true → (∀ x ∈ l, x.f1.size ≤ 50) → (joinT l).length ≤ 150 * l.length
  | [], _, _ => Nat.le_refl _
  | x :: l, h, hx => by
    rw [List.all_cons, Bool.and_eq_true] at h
    have ih := joinT_len l h.2 (fun y hy => hx y (List.mem_cons_of_mem _ hy))
    have h50 := hx x List.mem_cons_self
    obtain ⟨⟨h1, h8⟩, hl, hp, h5, h6⟩ := may_parts x h.1
    obtain ⟨k1, k2, k3⟩ := okc_of x.f2 hp
    have hj := jd_len x.f2.data.toList
    have hpr : (printOf x.f2.data.toList).1.size = (jd x.f2.data.toList).length := by unfold printOf; rw [if_pos ⟨k1, k2, k3⟩]; rfl
    have hls := line_size x (printOf x.f2.data.toList).1 h1 h8
    have htl : (tailL x).length ≤ 3 := by
      unfold tailL numB
      split
      · have := dec_len x.f3.toNat
        simp only [ByteArray.data_append, Array.toList_append, List.length_append]
        show 1 + (dec2 x.f3.toNat).length ≤ 3
        omega
      · exact Nat.zero_le _
    rw [joinT, List.length_append, List.length_append, List.length_cons]
    unfold lineT
    rw [List.length_append, list_len]
    simp only [List.length_cons, List.length_nil]
    omega
theorem print_parse (l : List Rl) (h : l.all mayB = true) (hl : l.length ≤ 400) (hx : ∀ x ∈ l, x.f1.size ≤ 50 ∧ x.f2.size ≤ 50) :
    rules_Print.f l = some (⟨(joinT l).toArray⟩, 0) ∧ rules_Parse.f ⟨(joinT l).toArray⟩ = some (unlGo l 0, 0, 0) := by
  have hj := joinT_len l h (fun x h => (hx x h).1)
  constructor
  · unfold rules_Print.f
    rw [if_neg (by omega), prt_model l [] (fun x h => by have := hx x h; omega), if_pos h, List.nil_append]
  · have hsz : (⟨(joinT l).toArray⟩ : ByteArray).size = (joinT l).length := rfl
    unfold rules_Parse.f
    rw [if_neg (by omega)]
    have hp : parts 10 ⟨(joinT l).toArray⟩ = (l.map lineT ++ [[]]).map fun t : List UInt8 => (⟨t.toArray⟩ : ByteArray) := by
      unfold parts
      rw [mk_data, join_split l h]
    have hb : ∀ p ∈ parts 10 (⟨(joinT l).toArray⟩ : ByteArray), p.size ≤ 5000 := by
      rw [hp]
      intro p hpm
      obtain ⟨t, ht, rfl⟩ := List.mem_map.1 hpm
      rcases List.mem_append.1 ht with ht | ht
      · obtain ⟨x, hxl, rfl⟩ := List.mem_map.1 ht
        have hm : mayB x = true := List.all_eq_true.1 h x hxl
        have h1 := joinT_len [x] (by rw [List.all_cons, hm]; rfl) (fun y hy => by rw [List.mem_singleton.1 hy]; exact (hx x hxl).1)
        rw [joinT, joinT, List.append_nil, List.length_append] at h1
        simp only [List.length_cons, List.length_nil] at h1
        show (lineT x).length ≤ 5000
        omega
      · rw [List.mem_singleton.1 ht]
        exact Nat.zero_le _
    rw [prs_model _ _ _ hb, hp]
    have h0 := parse_lines8 l [] 0 h (by simpa using hl)
    rw [List.nil_append, show ((0 : Nat) : Int) = 0 from rfl] at h0
    rw [h0]
end Go.Proofs.YtgjkjoocnkdckaaGreatDoor.PureC
