import Derived.Test.YtbpbniemjjhecaaGreatZPureChkAlone2
namespace Go.Proofs.YtbpbniemjjhecaaGreat.PureC
open Go.RowKit Go.Proofs.YtbpbniemjjhecaaGreat.PChk Go.Proofs.YtbpbniemjjhecaaGreat.G Go.Proofs.YtbpbniemjjhecaaGreatW.PrintWords Go.Proofs.YtbpbniemjjhecaaGreatW.PrintLast
set_option linter.unusedSimpArgs false
def upC (b : UInt8) : Bool := classN (b.toNat : Int) == 2
def loC (b : UInt8) : Bool := classN (b.toNat : Int) == 1
def ltC (b : UInt8) : Bool := loC b || upC b
def upsN (l : List UInt8) : Nat := l.countP upC
def losN (l : List UInt8) : Nat := l.countP loC
def headUp : List UInt8 → Bool
 | [] => false
 | b :: _ => upC b
def caseL (l : List UInt8) : Int :=
 if l.all ltC = true then (if l.isEmpty = true then 0 else if upsN l = 0 then 1 else if (headUp l && upsN l == 1) = true then 2 else if upsN l = l.length then 3 else 4) else 0
theorem los_ups : ∀ (l : List UInt8), l.all ltC = true → losN l + upsN l = l.length
 | [], _ => rfl
 | b :: l, h => by
  rw [List.all_cons, Bool.and_eq_true] at h
  have ih := los_ups l h.2
  unfold losN upsN at *
  rw [List.countP_cons, List.countP_cons, List.length_cons]
  have hb := h.1
  unfold ltC at hb
  cases h1 : loC b with
  | true =>
   have h2 : upC b = false := by
    unfold loC at h1; unfold upC
    rw [beq_iff_eq] at h1
    rw [h1]; rfl
   rw [h2, if_pos rfl, if_neg (by decide)]; omega
  | false =>
   rw [h1, Bool.false_or] at hb
   rw [hb, if_pos rfl, if_neg (by decide)]; omega
theorem span_take (k : Int) : ∀ (l : List UInt8), ∀ b ∈ l.take (spanN k l), classN (b.toNat : Int) = k
 | [], b, h => by simp at h
 | c :: l, b, h => by
  rw [spanN] at h
  split at h
  ·
   next hc =>
   rw [List.take_succ_cons] at h
   rcases List.mem_cons.1 h with rfl | h
   ·
    exact hc
   ·
    exact span_take k l b h
  ·
   simp at h
theorem count_all (p : UInt8 → Bool) (v : Bool) : ∀ (l : List UInt8), (∀ b ∈ l, p b = v) → l.countP p = if v = true then l.length else 0
 | [], _ => by simp
 | b :: l, h => by
  rw [List.countP_cons, count_all p v l (fun c hc => h c (List.mem_cons_of_mem _ hc)), h b (List.mem_cons_self ..)]
  cases v <;> simp
theorem run_counts (c : Int) (b : UInt8) (l : List UInt8) (hb : classN (b.toNat : Int) = c) :
  upsN (b :: l) = (if c = 2 then 1 + spanN c l else 0) + upsN (l.drop (spanN c l)) ∧ losN (b :: l) = (if c = 1 then 1 + spanN c l else 0) + losN (l.drop (spanN c l)) := by
 have hle := spanN_le c l
 have hall : ∀ x ∈ b :: l.take (spanN c l), classN (x.toNat : Int) = c := fun x hx => by
  rcases List.mem_cons.1 hx with rfl | hx
  ·
   exact hb
  ·
   exact span_take c l x hx
 have hsplit : b :: l = (b :: l.take (spanN c l)) ++ l.drop (spanN c l) := by rw [List.cons_append, List.take_append_drop]
 have hlen : (b :: l.take (spanN c l)).length = 1 + spanN c l := by rw [List.length_cons, List.length_take]; omega
 constructor
 ·
  unfold upsN
  rw [hsplit, List.countP_append, count_all upC (c == 2) _ (fun x hx => by unfold upC; rw [hall x hx]), hlen]
  by_cases h : c = 2
  ·
   rw [if_pos (by simpa using h), if_pos h]
  ·
   rw [if_neg (by simpa using h), if_neg h]
 ·
  unfold losN
  rw [hsplit, List.countP_append, count_all loC (c == 1) _ (fun x hx => by unfold loC; rw [hall x hx]), hlen]
  by_cases h : c = 1
  ·
   rw [if_pos (by simpa using h), if_pos h]
  ·
   rw [if_neg (by simpa using h), if_neg h]
theorem run_all (c : Int) (b : UInt8) (l : List UInt8) (hb : classN (b.toNat : Int) = c) (hc : c = 1 ∨ c = 2) : (b :: l).all ltC = (l.drop (spanN c l)).all ltC := by
 have hall : ∀ x ∈ b :: l.take (spanN c l), classN (x.toNat : Int) = c := fun x hx => by
  rcases List.mem_cons.1 hx with rfl | hx
  ·
   exact hb
  ·
   exact span_take c l x hx
 have hsplit : b :: l = (b :: l.take (spanN c l)) ++ l.drop (spanN c l) := by rw [List.cons_append, List.take_append_drop]
 have h1 : (b :: l.take (spanN c l)).all ltC = true := List.all_eq_true.2 fun x hx => by
  unfold ltC loC upC
  rw [hall x hx]
  rcases hc with rfl | rfl <;> rfl
 conv => lhs; rw [hsplit, List.all_append, h1, Bool.true_and]
def frm (s : ByteArray) (a : Nat) : List UInt8 := s.data.toList.drop a
theorem frm_cons (s : ByteArray) (a : Nat) (h : a < s.size) : frm s a = s[a] :: frm s (a + 1) := drop_at0 s a h
theorem case_w1 (r N : Nat) (h : r + N + 1 ≤ 1000000000000000) : wrap64 ((r : Int) + ((1 + N : Nat) : Int)) = ((r + (1 + N) : Nat) : Int) := (wrap_of (by omega) (by omega)).trans (by omega)
theorem case_w2 (r N : Nat) (h : r + N + 1 ≤ 1000000000000000) : wrap64 (((r + (1 + N) : Nat) : Int) - 1) = ((r + N : Nat) : Int) := (wrap_of (by omega) (by omega)).trans (by omega)
theorem case_w3 (r N : Nat) (x : Int) (hx : x = ((r + (1 + N) : Nat) : Int)) (h : r + N + 1 ≤ 1000000000000000) : wrap64 (x - 1) = ((r + N : Nat) : Int) := by
 subst hx
 exact case_w2 r N h
theorem case_count (s : ByteArray) (hs : s.size ≤ 140737488351232) : ∀ (n a r m : Nat) (f : Bool), s.size - a ≤ n → a ≤ s.size → r ≤ 1000000000000000 → m ≤ 1000000000000000 → r + m + (s.size - a) ≤ 1000000000000000 →
  caseGo (runsFrom s n a) f (r : Int) (m : Int) = if (frm s a).all ltC = true then some (f || (decide (a = 0) && headUp (frm s a)), ((r + upsN (frm s a) : Nat) : Int) - (if (decide (a = 0) && headUp (frm s a)) = true then 1 else 0), ((m + losN (frm s a) : Nat) : Int)) else none
 | 0, a, r, m, f, h, ha, hr, hm, hb => by
  have hsl : s.data.toList.length = s.size := by simp
  have e : frm s a = [] := List.drop_of_length_le (by omega)
  rw [runsFrom, caseGo, e]
  simp [upsN, losN, headUp]
 | n + 1, a, r, m, f, h, ha, hr, hm, hb => by
  rw [runsFrom]
  by_cases hlt : a < s.size
  ·
   rw [dif_pos hlt]
   generalize hc : classN (s[a].toNat : Int) = c
   have hsl : s.data.toList.length = s.size := by simp
   have hle := spanN_le c (frm s (a + 1))
   have hle2 : (frm s (a + 1)).length = s.size - (a + 1) := by unfold frm; rw [List.length_drop, hsl]
   rw [hle2] at hle
   have hdr : (frm s (a + 1)).drop (spanN c (frm s (a + 1))) = frm s (a + 1 + spanN c (frm s (a + 1))) := by
    conv => lhs; unfold frm
    rw [List.drop_drop]; rfl
   obtain ⟨q1, q2⟩ := run_counts c s[a] (frm s (a + 1)) hc
   have q3 := run_all c s[a] (frm s (a + 1)) hc
   rw [hdr] at q1 q2 q3
   rw [← frm_cons s a hlt] at q1 q2 q3
   have hh : headUp (frm s a) = (c == 2) := by rw [frm_cons s a hlt, headUp, upC, hc]
   have hal : (frm s a).all ltC = true → c = 1 ∨ c = 2 := fun h => by
    rw [frm_cons s a hlt, List.all_cons, Bool.and_eq_true] at h
    have := h.1
    unfold ltC loC upC at this
    rw [hc, Bool.or_eq_true, beq_iff_eq, beq_iff_eq] at this
    exact this
   rw [show s.data.toList.drop (a + 1) = frm s (a + 1) from rfl]
   generalize spanN c (frm s (a + 1)) = N at *
   have hz : (s.extract a (a + 1 + N)).size = 1 + N := by
    simp only [ByteArray.size_extract]; omega
   have hhead : headN (s.extract a (a + 1 + N)) = (s[a].toNat : Int) := by
    rw [headN_at _ (by omega), ByteArray.getElem_extract]
    simp
   have hrN : r + N + 1 ≤ 1000000000000000 := by omega
   have w1 := Lib.hid (case_w1 r N hrN)
   have w2 := Lib.hid (case_w3 r N _ (case_w1 r N hrN) hrN)
   rw [caseGo]
   simp only [hhead, hc, hz]
   by_cases h1 : c = 1
   ·
    rw [if_pos h1, wrap_of (by omega) (by omega), show ((m : Int) + ((1 + N : Nat) : Int)) = ((m + (1 + N) : Nat) : Int) from by omega]
    rw [case_count s hs n (a + 1 + N) r (m + (1 + N)) f (by omega) (by omega) hr (by omega) (by omega)]
    rw [if_neg (by omega)] at q1
    rw [if_pos h1] at q2
    rw [← q3 (Or.inl h1), hh, h1, q1, q2, show decide (a + 1 + N = 0) = false from decide_eq_false (by omega)]
    by_cases hA : (frm s a).all ltC = true
    ·
     rw [if_pos hA, if_pos hA]
     simp
     omega
    ·
     rw [if_neg hA, if_neg hA]
   ·
    rw [if_neg h1]
    by_cases h2 : c = 2
    ·
     rw [if_pos h2]
     rw [if_pos h2] at q1
     rw [if_neg h1] at q2
     by_cases h0 : a = 0
     ·
      rw [if_pos h0, w2.out]
      rw [case_count s hs n (a + 1 + N) (r + N) m true (by omega) (by omega) (by omega) hm (by omega)]
      rw [← q3 (Or.inr h2), hh, h2, q1, q2, show decide (a + 1 + N = 0) = false from decide_eq_false (by omega), decide_eq_true h0]
      by_cases hA : (frm s a).all ltC = true
      ·
       rw [if_pos hA, if_pos hA]
       simp
       omega
      ·
       rw [if_neg hA, if_neg hA]
     ·
      rw [if_neg h0, w1.out]
      rw [case_count s hs n (a + 1 + N) (r + (1 + N)) m f (by omega) (by omega) (by omega) hm (by omega)]
      rw [← q3 (Or.inr h2), q1, q2, show decide (a + 1 + N = 0) = false from decide_eq_false (by omega), decide_eq_false h0]
      by_cases hA : (frm s a).all ltC = true
      ·
       rw [if_pos hA, if_pos hA]
       simp
       omega
      ·
       rw [if_neg hA, if_neg hA]
    ·
     rw [if_neg h2, if_neg (fun hA => by rcases hal hA with h | h <;> contradiction)]
  ·
   rw [dif_neg hlt, caseGo]
   have hsl : s.data.toList.length = s.size := by simp
   have e : frm s a = [] := List.drop_of_length_le (by omega)
   rw [e]
   simp [upsN, losN, headUp]
theorem caseF_is (s : ByteArray) (hs : s.size ≤ 140737488351232) : caseF s = caseL s.data.toList := by
 have h := case_count s hs s.size 0 0 0 false (by omega) (by omega) (by omega) (by omega) (by omega)
 have e0 : frm s 0 = s.data.toList := List.drop_zero
 have hsl : s.data.toList.length = s.size := by simp
 rw [e0] at h
 unfold caseF caseL runs
 rw [show ((0 : Nat) : Int) = 0 from rfl] at h
 rw [h]
 by_cases hA : s.data.toList.all ltC = true
 ·
  rw [if_pos hA, if_pos hA]
  have hl := los_ups _ hA
  have hup : headUp s.data.toList = true → 1 ≤ upsN s.data.toList := fun h => by
   cases hd : s.data.toList with
   | nil => rw [hd] at h; cases h
   | cons b l =>
    rw [hd] at h
    unfold upsN
    rw [List.countP_cons, if_pos (show upC b = true from h)]; omega
  simp only [Nat.zero_add, Bool.false_or, decide_true, Bool.true_and]
  rw [ByteArray.toList_eq]
  by_cases hE : s.data.toList.isEmpty = true
  ·
   rw [if_pos hE, if_pos hE]
  ·
   rw [if_neg hE, if_neg hE]
   generalize upsN s.data.toList = u at *
   generalize losN s.data.toList = v at *
   by_cases h1 : u = 0
   ·
    rw [if_pos (by omega), if_pos h1]
   ·
    rw [if_neg (by omega), if_neg h1]
    cases hh : headUp s.data.toList with
    | true =>
     simp only [if_true, Bool.true_and, beq_iff_eq]
     by_cases h2 : u = 1
     ·
      rw [if_pos (by omega), if_pos h2]
     ·
      rw [if_neg (by omega), if_neg h2]
      by_cases h3 : u = s.data.toList.length
      ·
       rw [if_pos (by omega), if_pos h3]
      ·
       rw [if_neg (by omega), if_neg h3]
    | false =>
     simp only [Bool.false_and, Bool.false_eq_true, if_false]
     by_cases h3 : u = s.data.toList.length
     ·
      rw [if_pos (by omega), if_pos h3]
     ·
      rw [if_neg (by omega), if_neg h3]
 ·
  rw [if_neg hA, if_neg hA]
end Go.Proofs.YtbpbniemjjhecaaGreat.PureC
