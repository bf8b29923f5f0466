/- What is written is read as the pages, trimmed; what is read is written as the text: plainly. -/
import Derived.Test.YtnepacpbpbbbhaaDoorPureBrfParted2
namespace Go.Proofs.YtnepacpbpbbbhaaDoor.PureB
open Go.RowKit Go.Proofs.YtnepacpbpbbbhaaDoor.PBrf Go.Proofs.YtnepacpbpbbbhaaDoor.G Go.Proofs.YtnepacpbpbbbhaaDoorW.PrintWords Go.Proofs.YtnepacpbpbbbhaaDoorW.PrintLast

/-! ### the file of pages -/
def wl : List ByteArray → List UInt8
  | [] => []
  | l :: ls => (lineF l).1.data.toList ++ 10 :: wl ls
def wp : List (List ByteArray) → List UInt8
  | [] => []
  | p :: ps => wl p ++ 12 :: wp ps
def okL (p : List ByteArray) : Prop := ∀ l ∈ p, (lineF l).2 = 0
theorem wLines_ok : ∀ (p : List ByteArray) (acc : List UInt8), okL p → wLines p acc = (acc ++ wl p, 0)
  | [], acc, _ => by simp [wLines, wl]
  | l :: ls, acc, h => by
    rw [wLines, if_pos (h l List.mem_cons_self), wLines_ok ls _ (fun x hx => h x (List.mem_cons_of_mem _ hx)), wl]
    simp
theorem wLines_inv : ∀ (p : List ByteArray) (acc : List UInt8), (wLines p acc).2 = 0 → okL p
  | [], acc, _ => fun x hx => by cases hx
  | l :: ls, acc, h => by
    rw [wLines] at h
    by_cases hl : (lineF l).2 = 0
    · rw [if_pos hl] at h
      have ih := wLines_inv ls _ h
      intro x hx
      rcases List.mem_cons.1 hx with rfl | hx
      · exact hl
      · exact ih x hx
    · rw [if_neg hl] at h
      exact absurd h hl
theorem wPages_ok : ∀ (ps : List (List ByteArray)) (acc : List UInt8), (∀ p ∈ ps, okL p) → wPages ps acc = (acc ++ wp ps, 0)
  | [], acc, _ => by simp [wPages, wp]
  | p :: ps, acc, h => by
    rw [wPages, wLines_ok p acc (h p List.mem_cons_self), if_pos rfl, wPages_ok ps _ (fun x hx => h x (List.mem_cons_of_mem _ hx)), wp]
    simp
theorem wPages_inv : ∀ (ps : List (List ByteArray)) (acc : List UInt8), (wPages ps acc).2 = 0 → ∀ p ∈ ps, okL p
  | [], acc, _ => fun x hx => by cases hx
  | p :: ps, acc, h => by
    rw [wPages] at h
    by_cases hl : (wLines p acc).2 = 0
    · rw [if_pos hl] at h
      have ih := wPages_inv ps _ h
      intro x hx
      rcases List.mem_cons.1 hx with rfl | hx
      · exact wLines_inv x acc hl
      · exact ih x hx
    · rw [if_neg hl] at h
      exact absurd h hl
theorem wl_app : ∀ (p q : List ByteArray), wl (p ++ q) = wl p ++ wl q
  | [], q => rfl
  | l :: p, q => by rw [List.cons_append, wl, wl, wl_app p q]; simp
theorem wp_app : ∀ (p q : List (List ByteArray)), wp (p ++ q) = wp p ++ wp q
  | [], q => rfl
  | l :: p, q => by rw [List.cons_append, wp, wp, wp_app p q]; simp

/-! ### signs there and back -/
def sg (b : UInt8) : UInt8 := UInt8.ofNat (signF (b.toNat : Int)).1.toNat
def cg (b : UInt8) : UInt8 := UInt8.ofNat (fromF (b.toNat : Int)).1.toNat
def ns (l : List UInt8) : List Int := l.map fun b => (b.toNat : Int)
theorem str_ns (l : List UInt8) : strOfNums (ns l) = ⟨l.toArray⟩ := by
  apply text_eq
  rw [strOfNums_data, mk_data, ns, List.map_map]
  refine List.map_id'' (fun b => ?_) l
  simp
theorem each_all (f : Int → Int × Bool) : ∀ (l : List UInt8) (acc : List Int) (i : Int), (∀ b ∈ l, (f (b.toNat : Int)).2 = true) → eachGo f l acc i = (acc ++ l.map (fun b => (f (b.toNat : Int)).1), -1)
  | [], acc, i, _ => by simp [eachGo]
  | b :: l, acc, i, h => by
    rw [eachGo, if_pos (h b List.mem_cons_self), each_all f l _ _ (fun x hx => h x (List.mem_cons_of_mem _ hx))]
    simp
theorem each_ok (f : Int → Int × Bool) : ∀ (l : List UInt8) (acc : List Int) (i : Int), 0 ≤ i → (eachGo f l acc i).2 < 0 → ∀ b ∈ l, (f (b.toNat : Int)).2 = true
  | [], acc, i, _, _ => fun x hx => by cases hx
  | b :: l, acc, i, hi, h => by
    rw [eachGo] at h
    by_cases hb : (f (b.toNat : Int)).2 = true
    · rw [if_pos hb] at h
      have ih := each_ok f l _ _ (by omega) h
      intro x hx
      rcases List.mem_cons.1 hx with rfl | hx
      · exact hb
      · exact ih x hx
    · rw [if_neg hb] at h
      simp only at h
      omega
theorem sg_fin : ∀ c : Fin 256, (signF (c.val : Int)).2 = true → (signF (c.val : Int)).1 = ((UInt8.ofNat (signF (c.val : Int)).1.toNat).toNat : Int) ∧ 32 ≤ (UInt8.ofNat (signF (c.val : Int)).1.toNat).toNat ∧
    fromF (signF (c.val : Int)).1 = ((c.val : Int), true) ∧ ((UInt8.ofNat (signF (c.val : Int)).1.toNat == 32) = (c.val == 0)) := by decide +kernel
theorem cg_fin : ∀ c : Fin 256, (fromF (c.val : Int)).2 = true → (fromF (c.val : Int)).1 = ((UInt8.ofNat (fromF (c.val : Int)).1.toNat).toNat : Int) ∧
    signF (fromF (c.val : Int)).1 = ((c.val : Int), true) ∧ ((UInt8.ofNat (fromF (c.val : Int)).1.toNat == 0) = (c.val == 32)) := by decide +kernel
theorem nat_beq (b : UInt8) (n : Nat) (h : n < 256) : (b.toNat == n) = (b == UInt8.ofNat n) := by
  by_cases h1 : b = UInt8.ofNat n
  · subst h1
    simp
    omega
  · rw [beq_eq_false_iff_ne.2 h1]
    refine beq_eq_false_iff_ne.2 (fun h2 => h1 (UInt8.toNat_inj.1 ?_))
    rw [h2]
    simp
    omega
theorem sg_ok (b : UInt8) (h : (signF (b.toNat : Int)).2 = true) : (signF (b.toNat : Int)).1 = ((sg b).toNat : Int) ∧ 32 ≤ (sg b).toNat ∧ fromF ((sg b).toNat : Int) = ((b.toNat : Int), true) ∧ (sg b == 32) = (b == 0) := by
  obtain ⟨h1, h2, h3, h4⟩ := sg_fin ⟨b.toNat, b.toNat_lt⟩ h
  refine ⟨h1, h2, ?_, ?_⟩
  · rw [← show (signF (b.toNat : Int)).1 = ((sg b).toNat : Int) from h1]
    exact h3
  · exact h4.trans (nat_beq b 0 (by decide))
theorem cg_ok (b : UInt8) (h : (fromF (b.toNat : Int)).2 = true) : (fromF (b.toNat : Int)).1 = ((cg b).toNat : Int) ∧ signF ((cg b).toNat : Int) = ((b.toNat : Int), true) ∧ (cg b == 0) = (b == 32) := by
  obtain ⟨h1, h3, h4⟩ := cg_fin ⟨b.toNat, b.toNat_lt⟩ h
  refine ⟨h1, ?_, ?_⟩
  · rw [← show (fromF (b.toNat : Int)).1 = ((cg b).toNat : Int) from h1]
    exact h3
  · exact h4.trans (nat_beq b 32 (by decide))

/-! ### trimming -/
theorem dw_map (g : UInt8 → UInt8) (p q : UInt8 → Bool) : ∀ l : List UInt8, (∀ b ∈ l, p (g b) = q b) → (l.map g).dropWhile p = (l.dropWhile q).map g
  | [], _ => rfl
  | b :: l, h => by
    rw [List.map_cons, List.dropWhile_cons, List.dropWhile_cons, h b List.mem_cons_self]
    cases q b with
    | true => exact dw_map g p q l (fun x hx => h x (List.mem_cons_of_mem _ hx))
    | false => rfl
theorem trim_map (g : UInt8 → UInt8) (c d : UInt8) (l : List UInt8) (h : ∀ b ∈ l, (g b == d) = (b == c)) : Lib.trimRightB (l.map g) d = (Lib.trimRightB l c).map g := by
  unfold Lib.trimRightB
  rw [← List.map_reverse, dw_map g _ (fun b => b == c) _ (fun b hb => h b (List.mem_reverse.1 hb)), ← List.map_reverse]
theorem dw_twice (p : UInt8 → Bool) : ∀ l : List UInt8, (l.dropWhile p).dropWhile p = l.dropWhile p
  | [] => rfl
  | b :: l => by
    rw [List.dropWhile_cons]
    cases hb : p b with
    | true => exact dw_twice p l
    | false => simp [List.dropWhile_cons, hb]
theorem trim_twice (l : List UInt8) (c : UInt8) : Lib.trimRightB (Lib.trimRightB l c) c = Lib.trimRightB l c := by
  unfold Lib.trimRightB
  rw [List.reverse_reverse, dw_twice]
theorem trim_mem (l : List UInt8) (c x : UInt8) (h : x ∈ Lib.trimRightB l c) : x ∈ l := by
  unfold Lib.trimRightB at h
  exact List.mem_reverse.1 ((List.dropWhile_suffix _).subset (List.mem_reverse.1 h))
theorem trim_whole (c : UInt8) (s : ByteArray) (h : ¬ (trimF c s).size < s.size) : trimF c s = s := by
  apply text_eq
  rw [trimF, mk_data]
  have h1 : (Lib.trimRightB s.data.toList c).length = (trimF c s).size := rfl
  have h2 := len_size s
  unfold Lib.trimRightB at h1 ⊢
  have h3 : s.data.toList.reverse.dropWhile (fun b => b == c) = s.data.toList.reverse := (List.dropWhile_suffix _).eq_of_length (by
    rw [List.length_reverse] at h1 ⊢
    have := (List.dropWhile_suffix (l := s.data.toList.reverse) (fun b => b == c)).length_le
    rw [List.length_reverse] at this
    omega)
  rw [h3, List.reverse_reverse]

/-! ### a line -/
theorem line_signs2 (l : ByteArray) (h : (lineF l).2 = 0) : (∀ b ∈ (trimF 0 l).data.toList, (signF (b.toNat : Int)).2 = true) ∧ (lineF l).1 = ⟨((trimF 0 l).data.toList.map sg).toArray⟩ := by
  unfold lineF at h ⊢
  by_cases hc : 0 ≤ (eachGo signF (trimF 0 l).data.toList [] 0).2
  · rw [if_pos hc] at h
    exact absurd h (by decide)
  · have h1 := each_ok signF _ _ _ (Int.le_refl 0) (by omega : (eachGo signF (trimF 0 l).data.toList [] 0).2 < 0)
    refine ⟨h1, ?_⟩
    rw [if_neg hc, each_all _ _ _ _ h1, List.nil_append, ← str_ns, ns, List.map_map]
    simp only
    congr 1
    exact List.map_congr_left (fun b hb => (sg_ok b (h1 b hb)).1)
theorem lineP_of_line (l : ByteArray) (h : (lineF l).2 = 0) : lineP (lineF l).1 = (trimF 0 l, 0, 0) ∧ ∀ b ∈ (lineF l).1.data.toList, b ≠ 10 ∧ b ≠ 12 := by
  obtain ⟨h1, h2⟩ := line_signs2 l h
  have hf : ∀ b ∈ (trimF 0 l).data.toList.map sg, (fromF (b.toNat : Int)).2 = true := by
    intro b hb
    obtain ⟨c, hc, rfl⟩ := List.mem_map.1 hb
    rw [(sg_ok c (h1 c hc)).2.2.1]
  rw [h2]
  refine ⟨?_, ?_⟩
  · have htr : trimF 32 ⟨((trimF 0 l).data.toList.map sg).toArray⟩ = ⟨((trimF 0 l).data.toList.map sg).toArray⟩ := by
      apply text_eq
      rw [trimF, mk_data, mk_data, trim_map sg 0 32 _ (fun b hb => (sg_ok b (h1 b hb)).2.2.2)]
      congr 1
      rw [trimF, mk_data, trim_twice]
    unfold lineP
    rw [htr, mk_data, each_all _ _ _ _ hf, if_neg (by show ¬ (0 : Int) ≤ -1; decide), if_neg (Nat.lt_irrefl _), List.nil_append, List.map_map]
    have : (trimF 0 l).data.toList.map ((fun b : UInt8 => (fromF (b.toNat : Int)).1) ∘ sg) = ns (trimF 0 l).data.toList := by
      refine List.map_congr_left (fun b hb => ?_)
      show (fromF ((sg b).toNat : Int)).1 = _
      rw [(sg_ok b (h1 b hb)).2.2.1]
    rw [this, str_ns]
  · intro b hb
    rw [mk_data] at hb
    obtain ⟨c, hc, rfl⟩ := List.mem_map.1 hb
    have := (sg_ok c (h1 c hc)).2.1
    refine ⟨fun e => ?_, fun e => ?_⟩
    · rw [e] at this; exact absurd this (by decide)
    · rw [e] at this; exact absurd this (by decide)
theorem lineF_of_read (x : ByteArray) (h : (lineP x).2.2 = 0) : lineF (lineP x).1 = (x, 0) ∧ (lineP x).1.size = x.size := by
  unfold lineP at h ⊢
  by_cases hc : 0 ≤ (eachGo fromF x.data.toList [] 0).2
  · rw [if_pos hc] at h
    exact absurd h (show ¬ (2 : Int) = 0 from by decide)
  · rw [if_neg hc] at h ⊢
    by_cases ht : (trimF 32 x).size < x.size
    · rw [if_pos ht] at h
      exact absurd h (show ¬ (2 : Int) = 0 from by decide)
    · rw [if_neg ht]
      have hx := trim_whole 32 x ht
      have h1 := each_ok fromF _ _ _ (Int.le_refl 0) (by omega : (eachGo fromF x.data.toList [] 0).2 < 0)
      have he : (eachGo fromF x.data.toList [] 0).1 = ns (x.data.toList.map cg) := by
        rw [each_all _ _ _ _ h1, List.nil_append, ns, List.map_map]
        exact List.map_congr_left (fun b hb => (cg_ok b (h1 b hb)).1)
      simp only
      rw [he, str_ns]
      have htr : trimF 0 ⟨(x.data.toList.map cg).toArray⟩ = ⟨(x.data.toList.map cg).toArray⟩ := by
        apply text_eq
        rw [trimF, mk_data, mk_data, trim_map cg 32 0 _ (fun b hb => (cg_ok b (h1 b hb)).2.2)]
        congr 1
        have := congrArg (fun s : ByteArray => s.data.toList) hx
        exact this
      have hs : ∀ b ∈ x.data.toList.map cg, (signF (b.toNat : Int)).2 = true := by
        intro b hb
        obtain ⟨c, hc, rfl⟩ := List.mem_map.1 hb
        rw [(cg_ok c (h1 c hc)).2.1]
      refine ⟨?_, ?_⟩
      · unfold lineF
        rw [htr, mk_data, each_all _ _ _ _ hs, if_neg (by show ¬ (0 : Int) ≤ -1; decide), List.nil_append, List.map_map]
        have : x.data.toList.map ((fun b : UInt8 => (signF (b.toNat : Int)).1) ∘ cg) = ns x.data.toList := by
          refine List.map_congr_left (fun b hb => ?_)
          show (signF ((cg b).toNat : Int)).1 = _
          rw [(cg_ok b (h1 b hb)).2.1]
        rw [this, str_ns]
      · show (x.data.toList.map cg).length = _
        rw [List.length_map, len_size]

/-! ### reading what was written -/
theorem any_none : ∀ l : List UInt8, (∀ b ∈ l, b ≠ 10 ∧ b ≠ 12) → Lib.indexAny l [10, 12] = -1
  | [], _ => rfl
  | b :: l, h => by
    have h1 := h b List.mem_cons_self
    rw [any_cons, if_neg (by simpa using h1), any_none l (fun x hx => h x (List.mem_cons_of_mem _ hx)), if_pos (by decide)]
theorem drop_lt {s : ByteArray} {a : Nat} {b : UInt8} {l : List UInt8} (h : s.data.toList.drop a = b :: l) : ∃ h2 : a < s.size, s[a] = b ∧ s.data.toList.drop (a + 1) = l := by
  have h3 : a < s.size := by
    rcases Nat.lt_or_ge a s.size with h4 | h4
    · exact h4
    · rw [List.drop_of_length_le (by rw [len_size]; exact h4)] at h
      cases h
  have h5 := drop_at s a h3
  rw [h] at h5
  injection h5 with h6 h7
  exact ⟨h3, h6.symm, h7.symm⟩
theorem rd_page (s : ByteArray) (a : Nat) (rest : List UInt8) (hd : s.data.toList.drop a = 12 :: rest) (fuel : Nat) (pages : List (List ByteArray)) (page : List ByteArray) : rd (fuel + 1) s pages page a = rd fuel s (pages ++ [page]) [] (a + 1) := by
  obtain ⟨h1, h2, _⟩ := drop_lt hd
  rw [rd_step, dif_pos h1, if_pos h2]
theorem rd_line (s x : ByteArray) (a : Nat) (rest : List UInt8) (hd : s.data.toList.drop a = x.data.toList ++ 10 :: rest) (hx : ∀ b ∈ x.data.toList, b ≠ 10 ∧ b ≠ 12) (hP : (lineP x).2.2 = 0) (fuel : Nat) (pages : List (List ByteArray)) (page : List ByteArray) :
    rd (fuel + 1) s pages page a = rd fuel s pages (page ++ [(lineP x).1]) (a + x.size + 1) := by
  have hlen : x.data.toList.length = x.size := len_size x
  have hd2 : s.data.toList.drop (a + x.size) = 10 :: rest := by
    rw [← List.drop_drop, hd, ← hlen, List.drop_left]
  obtain ⟨h1, h2, _⟩ := drop_lt hd2
  have ha : a < s.size := by omega
  have h12 : s[a] ≠ 12 := by
    have h3 := drop_at s a ha
    rw [hd] at h3
    cases hxl : x.data.toList with
    | nil =>
      rw [hxl] at h3
      injection h3 with h4 _
      rw [← h4]
      decide
    | cons b l =>
      rw [hxl] at h3
      injection h3 with h4 _
      rw [← h4]
      exact (hx b (by rw [hxl]; exact List.mem_cons_self)).2
  have hll : lineLen s a = x.size := by
    have h0 : Lib.indexAny (10 :: rest) [10, 12] = 0 := by rw [any_cons, if_pos (by decide)]
    unfold lineLen
    rw [hd, any_snd _ _ _ (by rw [any_none _ hx]; decide) (by rw [h0]; decide), h0, if_neg (by omega), hlen]
    omega
  have hex : s.extract a (a + x.size) = x := by
    apply text_eq
    rw [ext_list, hd, Nat.add_sub_cancel_left, ← hlen, List.take_left]
  rw [rd_step, dif_pos ha, if_neg h12, hll, hex, if_neg (by simpa using hP), if_neg]
  rintro (h3 | h3)
  · omega
  · rw [bt_of s _ h1, h2] at h3
    exact absurd h3 (by decide)
theorem rd_lines : ∀ (p : List ByteArray), okL p → ∀ (s : ByteArray) (a : Nat) (rest : List UInt8), s.data.toList.drop a = wl p ++ rest → ∀ (fuel : Nat) (pages : List (List ByteArray)) (page : List ByteArray),
    rd (fuel + p.length) s pages page a = rd fuel s pages (page ++ p.map (trimF 0)) (a + (wl p).length)
  | [], _, s, a, rest, hd, fuel, pages, page => by simp [wl]
  | l :: p, h, s, a, rest, hd, fuel, pages, page => by
    obtain ⟨h1, h2⟩ := lineP_of_line l (h l List.mem_cons_self)
    rw [wl, List.append_assoc, List.cons_append] at hd
    have hlen : (lineF l).1.data.toList.length = (lineF l).1.size := len_size _
    have hd2 : s.data.toList.drop (a + (lineF l).1.size + 1) = wl p ++ rest := by
      rw [Nat.add_assoc, ← List.drop_drop, hd, ← hlen, List.drop_append, List.drop_of_length_le (by omega), List.nil_append, Nat.add_sub_cancel_left]
      rfl
    rw [List.length_cons, ← Nat.add_assoc, rd_line s (lineF l).1 a _ hd h2 (by rw [h1]), h1, rd_lines p (fun x hx => h x (List.mem_cons_of_mem _ hx)) s _ rest hd2, wl]
    congr 1
    · simp
    · rw [List.length_append, List.length_cons, hlen]
      omega
def nP : List (List ByteArray) → Nat
  | [] => 0
  | p :: ps => p.length + 1 + nP ps
theorem rd_pages : ∀ (ps : List (List ByteArray)), (∀ p ∈ ps, okL p) → ∀ (s : ByteArray) (a : Nat), s.data.toList.drop a = wp ps → ∀ (fuel : Nat) (pages : List (List ByteArray)),
    rd (fuel + nP ps) s pages [] a = rd fuel s (pages ++ ps.map (List.map (trimF 0))) [] (a + (wp ps).length)
  | [], _, s, a, hd, fuel, pages => by simp [wp, nP]
  | p :: ps, h, s, a, hd, fuel, pages => by
    rw [wp] at hd
    have hd2 : s.data.toList.drop (a + (wl p).length) = 12 :: wp ps := by rw [← List.drop_drop, hd, List.drop_left]
    have hd3 := (drop_lt hd2).2.2
    rw [nP, show fuel + (p.length + 1 + nP ps) = fuel + nP ps + 1 + p.length from by omega, rd_lines p (h p List.mem_cons_self) s a _ hd, rd_page s _ _ hd2, rd_pages ps (fun x hx => h x (List.mem_cons_of_mem _ hx)) s _ hd3, wp]
    congr 1
    · simp
    · rw [List.length_append, List.length_cons]
      omega
theorem rd_written (ps : List (List ByteArray)) (h : ∀ p ∈ ps, okL p) (s : ByteArray) (hs : s.data.toList = wp ps) : rd (s.size + 1) s [] [] 0 = (ps.map (List.map (trimF 0)), -1) := by
  have h1 := rd_pages ps h s 0 hs (s.size + 1) []
  rw [rd_plus s (s.size + 1) [] [] 0 (by omega) (by omega)] at h1
  have h2 : (wp ps).length = s.size := by rw [← hs, len_size]
  rw [h1, h2, rd_step, dif_neg (by omega), if_pos (show ([] : List ByteArray).isEmpty = true from rfl)]
  simp

/-! ### writing what was read -/
def okR (p : List ByteArray) : Prop := ∀ l ∈ p, (lineF l).2 = 0 ∧ (lineF l).1.size = l.size
theorem okR_okL {p : List ByteArray} (h : okR p) : okL p := fun l hl => (h l hl).1
theorem szP_wl : ∀ p : List ByteArray, okR p → szP p = (wl p).length
  | [], _ => rfl
  | l :: p, h => by
    have ih := szP_wl p (fun x hx => h x (List.mem_cons_of_mem _ hx))
    have h1 := (h l List.mem_cons_self).2
    have h2 := len_size (lineF l).1
    rw [szP, wl, List.length_append, List.length_cons]
    omega
theorem szPs_wp : ∀ ps : List (List ByteArray), (∀ p ∈ ps, okR p) → szPs ps = (wp ps).length
  | [], _ => rfl
  | p :: ps, h => by
    have ih := szPs_wp ps (fun x hx => h x (List.mem_cons_of_mem _ hx))
    have h1 := szP_wl p (h p List.mem_cons_self)
    rw [szPs, wp, List.length_append, List.length_cons]
    omega
theorem okR_app {p q : List ByteArray} (h : okR p) (h2 : okR q) : okR (p ++ q) := fun l hl => (List.mem_append.1 hl).elim (h l) (h2 l)
theorem rd_back (s : ByteArray) (fuel : Nat) : ∀ (pages : List (List ByteArray)) (page : List ByteArray) (a : Nat), a ≤ s.size → s.size - a < fuel → (rd fuel s pages page a).2 < 0 → (∀ p ∈ pages, okR p) → okR page →
    (∀ p ∈ (rd fuel s pages page a).1, okR p) ∧ wp (rd fuel s pages page a).1 = wp pages ++ (wl page ++ s.data.toList.drop a) := by
  induction fuel with
  | zero => intro pages page a h1 h2; omega
  | succ fuel ih =>
    intro pages page a h1 h2 hneg hp hq
    rw [rd_step] at hneg ⊢
    by_cases ha : a < s.size
    · rw [dif_pos ha] at hneg ⊢
      by_cases h12 : s[a] = 12
      · rw [if_pos h12] at hneg ⊢
        obtain ⟨g1, g2⟩ := ih (pages ++ [page]) [] (a + 1) (by omega) (by omega) hneg (fun p h => by
          rcases List.mem_append.1 h with h | h
          · exact hp p h
          · rw [List.mem_singleton.1 h]; exact hq) (fun l hl => by cases hl)
        refine ⟨g1, ?_⟩
        rw [g2, wp_app, drop_at s a ha, h12]
        simp [wp, wl]
      · have hll := lineLen_le s a h1
        have hf := line_facts s a h1
        have herr := line_err2 (s.extract a (a + lineLen s a))
        rw [if_neg h12] at hneg ⊢
        by_cases he : (lineP (s.extract a (a + lineLen s a))).2.2 ≠ 0
        · have h3 := (herr.resolve_left he).2
          rw [if_pos he] at hneg
          simp only at hneg
          omega
        · rw [if_neg he] at hneg ⊢
          by_cases hb : a + lineLen s a = s.size ∨ bt s ((a + lineLen s a : Nat) : Int) = 12
          · rw [if_pos hb] at hneg
            simp only at hneg
            omega
          · rw [if_neg hb] at hneg ⊢
            have h4 : a + lineLen s a < s.size := by
              have : a + lineLen s a ≠ s.size := fun h => hb (.inl h)
              omega
            have h10 := (hf.2 h4).resolve_right (fun h => hb (.inr h))
            have h10b : s[a + lineLen s a] = 10 := (bt_12 s _ h4).2.1 h10
            obtain ⟨k1, k2⟩ := lineF_of_read (s.extract a (a + lineLen s a)) (by simpa using he)
            obtain ⟨g1, g2⟩ := ih pages (page ++ [(lineP (s.extract a (a + lineLen s a))).1]) (a + lineLen s a + 1) (by omega) (by omega) hneg hp (okR_app hq (fun l hl => by
              rw [List.mem_singleton.1 hl, k1]
              exact ⟨rfl, k2.symm⟩))
            refine ⟨g1, ?_⟩
            have hd : s.data.toList.drop a = (s.extract a (a + lineLen s a)).data.toList ++ 10 :: s.data.toList.drop (a + lineLen s a + 1) := by
              rw [ext_list, Nat.add_sub_cancel_left]
              rw [← h10b, ← drop_at s _ h4, ← List.drop_drop, List.take_append_drop]
            rw [g2, wl_app, wl, wl, k1, hd]
            simp
    · rw [dif_neg ha] at hneg ⊢
      by_cases he : page.isEmpty = true
      · rw [if_pos he] at hneg ⊢
        rw [List.isEmpty_iff.1 he, List.drop_of_length_le (by rw [len_size]; omega)]
        exact ⟨hp, by simp [wl]⟩
      · rw [if_neg he] at hneg
        simp only at hneg
        omega
end Go.Proofs.YtnepacpbpbbbhaaDoor.PureB
