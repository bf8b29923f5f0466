import Derived.Test.YtbpbniemjjhecaaGreatZGChunkTApart
import Derived.OpenShut
import Derived.Test.YtbpbniemjjhecaaGreatZGChunkTOnce
section
namespace Go.Proofs.YtbpbniemjjhecaaGreat.PureC
open Go.RowKit Go.Proofs.YtbpbniemjjhecaaGreat.PChk Go.Proofs.YtbpbniemjjhecaaGreat.G Go.Proofs.YtbpbniemjjhecaaGreat.GT Go.Proofs.YtbpbniemjjhecaaGreatW.PrintWords Go.Proofs.YtbpbniemjjhecaaGreatW.PrintLast
set_option linter.unusedSimpArgs false
set_option linter.unusedVariables false
theorem fit_wf {l : List Tk} (h : ∀ r ∈ l, (Lit.int .i64 r.f0).wf = true ∧ (Lit.int .u8 r.f1).wf = true ∧ (Lit.int .i64 r.f2).wf = true) : l.all okTkB = true := by
 rw [List.all_eq_true]
 intro x hx
 have h1 := bounds_u8 (h x hx).2.1
 exact (okTkB_iff x).2 ⟨h1.1, by have := h1.2; omega⟩
theorem of_len {l : List Rl} (hA : Apart l) (hw : Whole l) {toks : List Tk} (hlen : toks.length ≤ 300) (ho : ∀ t ∈ toks, okTk t) : (ofC l toks).length ≤ 3 * toks.length + 2 := by
 rw [ofC_is]
 split
 ·
  rename_i wa
  obtain ⟨i, x, s, w1, w2, w3, w4, w5⟩ := word_is hA hw wa
  rw [w5, List.length_append]
  split
  ·
   simp only [List.length_cons, List.length_nil]; omega
  ·
   split <;> simp only [List.length_cons, List.length_nil] <;> omega
 ·
  have h1 : (spellC l toks).length ≤ 3 * toks.length := spell_len (l := l) hw (by omega) ho (toks.length + 1) 0 (Nat.zero_le _)
  unfold spelledQ
  split
  ·
   rw [List.length_cons]; omega
  ·
   omega
end Go.Proofs.YtbpbniemjjhecaaGreat.PureC
end
section
namespace Go.Proofs.YtbpbniemjjhecaaGreat.PureC
open Go.RowKit Go.Proofs.YtbpbniemjjhecaaGreat.PChk Go.Proofs.YtbpbniemjjhecaaGreat.G Go.Proofs.YtbpbniemjjhecaaGreat.GT Go.Proofs.YtbpbniemjjhecaaGreatW.PrintWords Go.Proofs.YtbpbniemjjhecaaGreatW.PrintLast
set_option linter.unusedSimpArgs false
set_option linter.unusedVariables false
inductive On (l : List Rl) (toks : List Tk) : Nat → List Pc → Prop
 | done : On l toks toks.length []
 | zero (a : Nat) (i : Int) (x : Rl) (ps : List Pc) (h0 : 0 ≤ i) (hx : l[i.toNat]? = some x) (h8 : x.f0 = 8) (hn : x.f1 = capName ∨ x.f1 = capsName ∨ x.f1 = letName ∨ x.f1 = numName) (hr : On l toks a ps) : On l toks a (⟨i, (a : Int), 0⟩ :: ps)
 | some_ (a : Nat) (i : Int) (x : Rl) (n : Nat) (L : List UInt8) (ps : List Pc) (h0 : 0 ≤ i) (hx : l[i.toNat]? = some x) (h1 : 1 ≤ n) (hf : a + n ≤ toks.length) (hL : L.length = n)
   (hc : ∀ j, j < n → ∃ t, toks[a + j]? = some t ∧ (t.f0 == 1) = (x.f0 != 8) ∧ L[j]? = some (lowN (tb t))) (h8 : x.f0 = 8 → n = 1 ∧ x.f1.size = 2 ∧ (x.f1.extract 0 1).data.toList = L) (hn : x.f0 ≠ 8 → x.f1.data.toList = L) (hr : On l toks (a + n) ps) : On l toks a (⟨i, (a : Int), (n : Int)⟩ :: ps)
theorem mark_bytes {t : Tk} (h : (markF t).toList ≠ []) : (markF t).size = 2 ∧ ((markF t).extract 0 1).data.toList = [tb t] ∧ lowN (tb t) = tb t := by
 rw [toList_data] at h
 unfold markF at *
 split at h
 ·
  rename_i h1
  have hl : lowN (tb t) = tb t := by
   unfold tb
   rcases h1 with e | e | e <;> rw [e] <;> decide
  rw [if_pos h1]
  split at h
  ·
   rename_i h2
   rw [if_pos h2]
   exact ⟨rfl, rfl, hl⟩
  ·
   rename_i h2
   rw [if_neg h2]
   split at h
   ·
    rename_i h3
    rw [if_pos h3]
    exact ⟨rfl, rfl, hl⟩
   ·
    exact absurd rfl h
 ·
  exact absurd rfl h
theorem sp_on {l : List Rl} {toks : List Tk} {a : Nat} {q : Int} {h d : Bool} {ps : List Pc} (hs : Sp l toks a q h d ps) : On l toks a ps := by
 induction hs with
 | done => exact On.done
 | zero a q h i x ps h0 hx h8 hq hz hr ih => exact On.zero a i x ps h0 hx h8 (names_size hz) ih
 | lets a q h d i x ps h0 hx hq h4 h1 hf hc hr ih =>
  refine On.some_ a i x x.f1.size x.f1.data.toList ps h0 hx h1 hf (by simp) (fun j hj => ?_) (fun e => by omega) (fun _ => rfl) ih
  obtain ⟨t, t1, t2, t3, _⟩ := hc j hj
  refine ⟨t, t1, ?_, t3⟩
  rw [t2, bne_iff_ne.2 (by omega : x.f0 ≠ 8)]; rfl
 | tok a q h i x t ps h0 hx hq ht ho hr ih =>
  have hlt := (List.getElem?_eq_some_iff.1 ht).1
  have one : ∀ {k : Int}, k ≠ 8 → x.f0 = k → t.f0 = 1 → x.f1 = oneS t.f1 → lowN (tb t) = tb t → On l toks a (⟨i, (a : Int), 1⟩ :: ps) := fun {k} hk e1 e2 e3 e4 => by
   refine On.some_ a i x 1 [tb t] ps h0 hx (by omega) (by omega) rfl (fun j hj => ?_) (fun e => by omega) (fun _ => by rw [e3]; rfl) ih
   obtain rfl : j = 0 := by omega
   refine ⟨t, ht, ?_, by rw [e4]; rfl⟩
   rw [e2, bne_iff_ne.2 (by omega : x.f0 ≠ 8)]; rfl
  rcases ho with ⟨e1, _, e2, e3, e4⟩ | ⟨e1, e2, e3, e4⟩ | ⟨e1, e2, e3, e4⟩
  ·
   exact one (by decide) e1 e2 e3 e4
  ·
   exact one (by decide) e1 e2 e3 e4
  ·
   obtain ⟨m1, m2, m3⟩ := mark_bytes e4
   refine On.some_ a i x 1 [tb t] ps h0 hx (by omega) (by omega) rfl (fun j hj => ?_) (fun _ => ⟨rfl, by rw [e3]; exact m1, by rw [e3]; exact m2⟩) (fun e => absurd e1 e) ih
   obtain rfl : j = 0 := by omega
   refine ⟨t, ht, ?_, by rw [m3]; rfl⟩
   rw [e1, beq_eq_false_iff_ne.2 e2]; rfl
theorem on_chunk {l : List Rl} (hA : Apart l) (hw : Whole l) {toks : List Tk} (hlen : toks.length ≤ 100000) (ho : ∀ t ∈ toks, okTk t) (hck : checkT toks = true) : On l toks 0 (ofC l toks) := by
 have hsp := sp_on (sp_chunk hA hw hlen ho hck)
 rw [ofC_is]
 split
 ·
  rename_i wa
  obtain ⟨i, x, s, w1, w2, w3, w4, w5⟩ := word_is hA hw wa
  rw [w5]
  have hsz : x.f1.data.toList = (toks.map tb).map lowN := by rw [w1.left, low_list, w1.str, bytes_of]
  have hpos : 1 ≤ toks.length := by
   have ha := alone_letters x (hA.1 x (List.mem_of_getElem? w1.at_)) (by have := w1.five; omega)
   have := congrArg List.length hsz
   rw [List.length_map, List.length_map] at this
   have e : x.f1.data.toList.length = x.f1.size := by simp
   omega
  have hword : On l toks 0 [⟨i, 0, (toks.length : Int)⟩] := by
   refine On.some_ 0 i x toks.length x.f1.data.toList [] w1.nat w1.at_ hpos (by omega) (by rw [hsz, List.length_map, List.length_map]) (fun j hj => ?_) (fun e => by have := w1.five; omega) (fun _ => rfl) (by rw [Nat.zero_add]; exact On.done)
   rw [Nat.zero_add]
   have ht := List.getElem?_eq_getElem hj
   refine ⟨toks[j], ht, ?_, by rw [hsz, List.getElem?_map, List.getElem?_map, ht]; rfl⟩
   have hm := List.mem_of_getElem? ht
   rw [(let_class (ho _ hm) (w1.lets _ hm)).1, bne_iff_ne.2 (by have := w1.five; omega : x.f0 ≠ 8)]; rfl
  split
  ·
   obtain ⟨y, y0, y1, y2, y3⟩ := find_wanted hA hw (mem_sign cap_in)
   exact On.zero 0 _ y _ y0 y1 y2 (.inl y3) hword
  ·
   split
   ·
    obtain ⟨y, y0, y1, y2, y3⟩ := find_wanted hA hw (mem_sign caps_in)
    exact On.zero 0 _ y _ y0 y1 y2 (.inr (.inl y3)) hword
   ·
    exact hword
 ·
  unfold spelledQ
  split
  ·
   obtain ⟨y, y0, y1, y2, y3⟩ := find_wanted hA hw (mem_sign let_in)
   exact On.zero 0 _ y _ y0 y1 y2 (.inr (.inr (.inl y3))) hsp
  ·
   exact hsp
theorem low_one (t : Tk) (ho : okTk t) : chars_Lower.f t.f1 = some ((lowN (tb t)).toNat : Int) := by
 have h := lower_is (tb t)
 rw [tb_nat ho] at h
 exact h
theorem once_in (l : List Rl) (toks : List Tk) (ho : ∀ t ∈ toks, okTk t) (hlen : toks.length ≤ 1000) (P : List Pc) (i : Int) (a n : Nat) (hf : a + n ≤ toks.length) (p0 p1 r3 r4 : Int) (x : Rl) (L : List UInt8) (hL : L.length = n)
  (hc : ∀ j, j < n → ∃ t, toks[a + j]? = some t ∧ (t.f0 == 1) = (x.f0 != 8) ∧ L[j]? = some (lowN (tb t))) : ∀ (m j k : Nat), j + m = n →
  pOnce.l1 (k + m) l toks P (a : Int) i ⟨(L.take j).toArray⟩ ((a + j : Nat) : Int) p0 p1 (n : Int) x.f0 x.f1 x.f2 r3 r4 = pOnce.l1 k l toks P (a : Int) i ⟨L.toArray⟩ ((a + n : Nat) : Int) p0 p1 (n : Int) x.f0 x.f1 x.f2 r3 r4
 | 0, j, k, hj => by
  obtain rfl : j = n := by omega
  rw [List.take_of_length_le (by omega)]; rfl
 | m + 1, j, k, hj => by
  obtain ⟨t, t1, t2, t3⟩ := hc j (by omega)
  have hw1 := Lib.hid (show wrap64 ((a : Int) + (n : Int)) = ((a + n : Nat) : Int) from by unfold wrap64; omega)
  have hw2 := Lib.hid (show wrap64 (((a + j : Nat) : Int) + 1) = ((a + (j + 1) : Nat) : Int) from by unfold wrap64; omega)
  have hlt := (List.getElem?_eq_some_iff.1 t1).1
  have hrd : rd_T42 toks ((a + j : Nat) : Int) = t := by rw [tk_at toks (a + j) hlt]; exact (List.getElem?_eq_some_iff.1 t1).2
  have hstr : strOfNums [((lowN (tb t)).toNat : Int)] = ⟨#[lowN (tb t)]⟩ := str_one _
  have hta : L.take (j + 1) = L.take j ++ [lowN (tb t)] := by rw [List.take_add_one, t3]; rfl
  have hacc : (⟨(L.take j).toArray⟩ : ByteArray) ++ ⟨#[lowN (tb t)]⟩ = ⟨(L.take (j + 1)).toArray⟩ := by rw [acc_add, hta]
  have hsz : (⟨(L.take j).toArray⟩ : ByteArray).size + (⟨#[lowN (tb t)]⟩ : ByteArray).size ≤ 9223372036854775807 := by
   rw [acc_size, List.length_take, show (⟨#[lowN (tb t)]⟩ : ByteArray).size = 1 from rfl]; omega
  rw [show k + (m + 1) = (k + m) + 1 from by omega, pOnce.l1, hw1.out, if_pos (by omega), if_pos (by omega), if_pos (by omega), hrd, t2, if_neg (by rw [bne_self_eq_false]; decide), low_one t (ho t (List.mem_of_getElem? t1)), Option.bind_some, Option.bind_some, hstr, if_pos (by omega), hacc, hw2.out]
  exact once_in l toks ho hlen P i a n hf p0 p1 r3 r4 x L hL hc m (j + 1) k (by omega)
theorem once_go {l : List Rl} (hl : l.length ≤ 450) {toks : List Tk} (ho : ∀ t ∈ toks, okTk t) (hlen : toks.length ≤ 40) (P : List Pc) (hP : P.length ≤ 200) : ∀ (n i a k : Nat), i + n = P.length → On l toks a (P.drop i) → 3 * n + (toks.length - a) + 1 ≤ k → pOnce.l0 k l toks P (a : Int) (i : Int) = some true
 | 0, i, a, k, hi, hon, hk => by
  obtain ⟨k, rfl⟩ : ∃ m, k = m + 1 := ⟨k - 1, by omega⟩
  rw [List.drop_of_length_le (by omega)] at hon
  cases hon
  rw [pOnce.l0, if_neg (by omega), if_pos rfl]
  rfl
 | n + 1, i, a, k, hi, hon, hk => by
  obtain ⟨k, rfl⟩ : ∃ m, k = m + 2 := ⟨k - 2, by omega⟩
  have hlt : i < P.length := by omega
  have hw := Lib.hid (show wrap64 ((i : Int) + 1) = ((i + 1 : Nat) : Int) from by unfold wrap64; omega)
  have hd : P.drop i = P[i] :: P.drop (i + 1) := List.drop_eq_getElem_cons hlt
  rw [hd] at hon
  generalize hp : P[i] = p at hon
  generalize hQ : P.drop (i + 1) = Q at hon
  cases hon with
  | zero _ j x _ h0 hx h8 hn hr =>
   have hv := valid_of (p := ⟨j, (a : Int), 0⟩) h0 hx
   simp only at hv
   rw [← hQ] at hr
   have ih := once_go hl ho hlen P hP n (i + 1) a k (by omega) hr (by omega)
   have ha : a ≤ toks.length := by
    have key : ∀ {b : Nat} {qs : List Pc}, On l toks b qs → b ≤ toks.length := fun {b qs} h => by
     induction h with
     | done => exact Nat.le_refl _
     | zero _ _ _ _ _ _ _ _ _ ih => exact ih
     | some_ _ _ _ _ _ _ _ _ _ hf _ _ _ _ _ _ => omega
    exact key hr
   have hwa := Lib.hid (show wrap64 ((a : Int) + 0) = (a : Int) from by unfold wrap64; omega)
   rw [pOnce.l0, if_pos (by omega), if_pos (by omega), pc_at P i hlt, hp]
   simp only
   rw [if_neg (by omega), if_neg (by omega), if_pos trivial, if_neg (by omega), hwa.out, decide_eq_false (by omega), pOnce.j1, if_neg (by decide), if_pos h0, if_pos hv.2, if_pos rfl, rule_at hx, if_pos h8, hw.out]
   rcases hn with e | e | e | e
   ·
    rw [if_pos (by rw [e, toList_data]; rfl)]; exact ih
   ·
    rw [if_neg (by rw [e, toList_data]; decide), if_pos (by rw [e, toList_data]; rfl)]; exact ih
   ·
    rw [if_neg (by rw [e, toList_data]; decide), if_neg (by rw [e, toList_data]; decide), if_neg (by rw [e, toList_data]; decide), if_pos (by rw [e, toList_data]; rfl)]; exact ih
   ·
    rw [if_neg (by rw [e, toList_data]; decide), if_neg (by rw [e, toList_data]; decide), if_pos (by rw [e, toList_data]; rfl)]; exact ih
  | some_ _ j x m L _ h0 hx h1 hf hL hc h8 hn hr =>
   have hv := valid_of (p := ⟨j, (a : Int), (m : Int)⟩) h0 hx
   simp only at hv
   rw [← hQ] at hr
   obtain ⟨k, rfl⟩ : ∃ z, k = z + m + 1 := ⟨k - m - 1, by omega⟩
   have ih := once_go hl ho hlen P hP n (i + 1) (a + m) k (by omega) hr (by omega)
   have hwa := Lib.hid (show wrap64 ((a : Int) + (m : Int)) = ((a + m : Nat) : Int) from by unfold wrap64; omega)
   have hin := once_in l toks ho (by omega) P (i : Int) a m hf j (a : Int) x.f3 x.f4 x L hL hc m 0 (k + 1) (by omega)
   simp only [Nat.add_zero, List.take_zero] at hin
   rw [pOnce.l0, if_pos (by omega), if_pos (by omega), pc_at P i hlt, hp]
   simp only
   rw [if_neg (by omega), if_neg (by omega), if_pos trivial, if_neg (by omega), hwa.out, decide_eq_false (by omega), pOnce.j1, if_neg (by decide), if_pos h0, if_pos hv.2, if_neg (by omega), rule_at hx, show k + m + 1 = (k + 1) + m from by omega, hin, pOnce.l1, hwa.out, if_neg (by omega), hw.out]
   by_cases e8 : x.f0 = 8
   ·
    obtain ⟨q1, q2, q3⟩ := h8 e8
    rw [if_pos e8, if_pos (by omega), if_pos (by omega), if_pos (by omega), if_pos (by omega), if_pos (by rw [toList_data, toList_data, q3])]
    exact ih
   ·
    rw [if_neg e8, if_pos (by rw [toList_data, toList_data, hn e8])]
    exact ih
theorem once_true {l : List Rl} (v : Value) (hA : Apart l) (hw : Whole l) (hl : l.length ≤ 450) (hs : ∀ x ∈ l, Short x) (a : List Tk) (ha : a.length ≤ 40) (oa : ∀ x ∈ a, okTk x) : pOnce.f 1000 l a ⟨v, some (some l)⟩ = some true := by
 unfold pOnce.f
 rw [of_f hA hw hs (by omega) oa v]
 by_cases ca : checkT a = true
 ·
  rw [if_pos ca, Option.bind_some]
  simp only
  rw [if_pos trivial]
  have l1 := of_len hA hw (by omega) oa
  have h := once_go hl oa ha (ofC l a) (by omega) (ofC l a).length 0 0 1000 (by omega) (by rw [List.drop_zero]; exact on_chunk hA hw (by omega) oa ca) (by omega)
  exact h
 ·
  rw [if_neg ca, Option.bind_some]
  simp only
  rw [if_neg (by decide), if_pos (show (([] : List Pc).length : Int) = 0 from rfl), check_f a (by omega) oa 1000 (by omega), if_neg ca, Option.bind_some, if_pos rfl]
  rfl
end Go.Proofs.YtbpbniemjjhecaaGreat.PureC
end
